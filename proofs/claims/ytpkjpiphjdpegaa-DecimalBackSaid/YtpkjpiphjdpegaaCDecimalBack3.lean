/- A program of this session wrote this text out of the session's own texts. (part 3 of 3) -/
import Derived.Test.YtpkjpiphjdpegaaCDecimalBack2
import Derived.Ground.GgwProg
import Derived.Shelf.GgClosure.StringsIndexFuncTop
import Derived.Test.YtpkjpiphjdpegaaProg
import Derived.Laws.RangeAny
import Derived.Lib.ConvBytes
import Derived.Deep.RegionWith
import Derived.Shelf.Strings.OnBuilder
import Derived.Deep.RegionLaw
import Derived.Maps.AppendAt
import Derived.Laws.OwnMore
import Derived.Test.YtpkjpiphjdpegaaRows
import Derived.WalkKit
import Derived.ProofKit
import Derived.OpenShut
import Derived.ShutString
import Derived.ChangeOld
import Derived.Below
import Derived.SizedLaws
namespace Go.Proofs.Ytpkjpiphjdpegaa.P
open Go.Shelf Go.RowKit
def shGw17_ren : Go.Shelf.Ren := ⟨fun | 17 => 101 | 15 => 116 | 20 => 123 | n => n, fun | 9 => 9 | 23 => 115 | 4 => 4 | 3 => 3 | 0 => 0 | 21 => 21 | n => n, fun | n => n⟩
theorem shGw17 : Go.Proofs.LaysGw.n17 Try.prog shGw17_ren := {
  mixed := by kernel_rfl
  f15 := Try.func116.trans (congrArg some (by kernel_rfl))
  f17 := Try.func101.trans (congrArg some (by kernel_rfl))
  f20 := Try.func123.trans (congrArg some (by kernel_rfl))
  t0 := Try.underlying0
  a0 := Try.isAgg0
  z0 := Try.sizeOf0
  v0 := Try.zeroValue0
  i0 := by kernel_rfl
  t3 := Try.underlying3
  a3 := Try.isAgg3
  z3 := Try.sizeOf3
  v3 := Try.zeroValue3
  i3 := by kernel_rfl
  t4 := Try.underlying4
  a4 := Try.isAgg4
  z4 := Try.sizeOf4
  v4 := Try.zeroValue4
  i4 := by kernel_rfl
  t9 := Try.underlying9
  a9 := Try.isAgg9
  z9 := Try.sizeOf9
  v9 := Try.zeroValue9
  i9 := by kernel_rfl
  t21 := Try.underlying21
  a21 := Try.isAgg21
  z21 := Try.sizeOf21
  v21 := Try.zeroValue21
  i21 := by kernel_rfl
  t23 := Try.underlying115
  a23 := Try.isAgg115
  z23 := Try.sizeOf115
  v23 := Try.zeroValue115
  i23 := by kernel_rfl }
open Go.RowKit Go.Lib in
theorem sh_ContainsFunc (g : Nat) (lb : Array Value) (eg : ∀ args w, (callFunc g args).run Try.prog w = .ok (.enter g args) w) (p : Nat → Bool) (s : ByteArray) (w : World) (hp : PredAt Try.prog g lb encR p w) :
    Calls Try.prog 101 #[.string s, .func (.func g) #[] lb] w fun e w' => e = .returned (.bool (decide (0 ≤ Lib.idxFunc p true s))) ∧ Below w.heap.size w w' := Any.strings_ContainsFunc shGw17 g lb eg p s w hp
end Go.Proofs.Ytpkjpiphjdpegaa.P
namespace Go.Proofs.Ytpkjpiphjdpegaa.P
open Go.RowKit Go.Proofs.YtpkjpiphjdpegaaW.PrintWords Go.Proofs.YtpkjpiphjdpegaaW.PrintLast Go.Proofs.YtpkjpiphjdpegaaW.PrintMore
set_option linter.unusedVariables false
set_option linter.unusedSimpArgs false
def odd (r : Nat) : Bool := decide (r < 48) || decide (57 < r)
theorem odd_at (w : World) : PredAt Try.prog 100 #[] encR odd w := fun W r _ => by
  unfold FnGives odd
  by_cases h1 : r < 48 <;> by_cases h2 : 57 < r
  all_goals
    have z1 : (r : Int) < 48 ↔ r < 48 := by omega
    have z2 : (57 : Int) < (r : Int) ↔ 57 < r := by omega
    go_enter Try.func100, Try.ntmps100
    go_wp2
    all_goals first | (exfalso; omega) | (go_ret; exact ⟨by simp [h1, h2], 0, rfl⟩)
def badB (c : Int) : Bool := decide (c < 48) || decide (c > 57)
theorem nb_cons (s : ByteArray) (i : Nat) (h : i < s.size) : (nb s).drop i = ((s[i]'h).toNat : Int) :: (nb s).drop (i + 1) := by
  rw [List.drop_eq_getElem_cons (by rw [nb_length]; exact h)]
  congr 1
  unfold nb
  rw [List.getElem_map, Array.getElem_toList]
  rfl
theorem odd_from (s : ByteArray) : ∀ (f pos : Nat), s.size ≤ pos + f → (0 ≤ Lib.idxFuncFrom odd true s f pos ↔ ((nb s).drop pos).any badB = true)
  | 0, pos, h => by
    rw [List.drop_of_length_le (by rw [nb_length]; omega)]
    simp [Lib.idxFuncFrom]
  | f + 1, pos, h => by
    unfold Lib.idxFuncFrom
    by_cases hp : pos < s.size
    · rw [if_pos hp, nb_cons s pos hp, List.any_cons]
      have hb := (s[pos]'hp).toNat_lt
      by_cases ha : (s[pos]'hp).toNat < 128
      · rw [decode_ascii s pos hp ha]
        show 0 ≤ (if odd (s[pos]'hp).toNat = true then (pos : Int) else Lib.idxFuncFrom odd true s f (pos + 1)) ↔ _
        have e : odd (s[pos]'hp).toNat = badB ((s[pos]'hp).toNat : Int) := by
          unfold odd badB
          generalize (s[pos]'hp).toNat = x
          rw [Bool.eq_iff_iff]
          simp only [Bool.or_eq_true, decide_eq_true_eq]
          omega
        rw [e]
        by_cases c : badB ((s[pos]'hp).toNat : Int) = true
        · rw [if_pos c, c]
          simp
        · rw [if_neg c, odd_from s f (pos + 1) (by omega)]
          simp [c]
      · have d := decode_high s pos hp (by omega)
        have c : badB ((s[pos]'hp).toNat : Int) = true := by unfold badB; simp; omega
        have o : odd (Utf8.decode s pos).1 = true := by unfold odd; simp; omega
        rw [if_pos o, c]
        simp
    · rw [if_neg hp, List.drop_of_length_le (by rw [nb_length]; omega)]
      simp
theorem odd_is (s : ByteArray) : decide (0 ≤ Lib.idxFunc odd true s) = (nb s).any badB := by
  rw [Bool.eq_iff_iff, decide_eq_true_eq]
  have := odd_from s s.size 0 (by omega)
  rw [List.drop_zero] at this
  exact this
theorem contains_odd (s : ByteArray) (w : World) : Calls Try.prog 101 #[.string s, .func (.func 100) #[] #[]] w fun e w' => e = .returned (.bool ((nb s).any badB)) ∧ Below w.heap.size w w' := by
  rw [← odd_is]
  exact sh_ContainsFunc 100 #[] (enters_of Try.func100 (by kernel_rfl) rfl) odd s w (odd_at w)
theorem of_exact (d : Int) (w : World) : Calls Try.prog 51 #[.int .u64 d] w fun e w' => e = .returned (.agg #[.int .u64 0, .int .u64 d]) ∧ ∃ o, w' = w.alloc o := by
  go_enter Try.func51, Try.ntmps51
  go_wp2
  exact bodyPost_ret (v := .agg #[.int .u64 0, .int .u64 d]) (by simp [results, Try.results51, go_sem]) rfl ⟨rfl, _, rfl⟩
set_option maxHeartbeats 1000000 in
set_option maxRecDepth 100000 in
theorem add_exact (a0_0 a0_1 a1_0 a1_1 r1 r2 r3 : Int) (w : World) (h : u128_Add.f a0_0 a0_1 a1_0 a1_1 = some (r1, r2, r3)) :
    Calls Try.prog 45 #[.agg #[.int .u64 a0_0, .int .u64 a0_1], .agg #[.int .u64 a1_0, .int .u64 a1_1]] w fun e w' => e = .returned (.tuple #[.agg #[.int .u64 r1, .int .u64 r2], .int .i64 r3]) ∧ ∃ o1 o2 o3, w' = ((w.alloc o1).alloc o2).alloc o3 := by
  have hu : U64 a0_0 ∧ U64 a0_1 ∧ U64 a1_0 ∧ U64 a1_1 := by
    unfold u128_Add.f at h
    split at h
    · assumption
    · cases h
  obtain ⟨h1, h2, h3, h4⟩ := hu
  obtain ⟨lo, c1, hi, c2, e1, e2, e3, e4, l1, l2, l3, hf⟩ := add_plan a0_0 a0_1 a1_0 a1_1 h1 h2 h3 h4
  have k1 : ∀ W : World, (callFunc 85 #[.int .u64 a0_1, .int .u64 a1_1, .int .u64 0]).run Try.prog W = .ok (.value (.tuple #[.int .u64 lo, .int .u64 c1])) W := by
    intro W
    rw [call_add64 _ _ _ h2.1 h4.1 (by omega) (by omega), e1, e2]
  have k2 : ∀ W : World, (callFunc 85 #[.int .u64 a0_0, .int .u64 a1_0, .int .u64 c1]).run Try.prog W = .ok (.value (.tuple #[.int .u64 hi, .int .u64 c2])) W := by
    intro W
    rw [call_add64 _ _ _ h1.1 h3.1 l1 l2, e3, e4]
  clear e1 e2 e3 e4 h1 h2 h3 h4 l1 l2 l3
  rcases hf with ⟨hc, hf⟩ | ⟨hc, hf⟩
  · rw [hf] at h
    simp only [Option.some.injEq, Prod.mk.injEq] at h
    obtain ⟨rfl, rfl, rfl⟩ := h
    subst hc
    clear hf
    go_enter Try.func45, Try.ntmps45
    go_wp2
    exact bodyPost_ret (v := .tuple #[.agg #[.int .u64 hi, .int .u64 lo], .int .i64 0]) (by simp [results, Try.results45, go_sem]) rfl ⟨rfl, _, _, _, rfl⟩
  · rw [hf] at h
    simp only [Option.some.injEq, Prod.mk.injEq] at h
    obtain ⟨rfl, rfl, rfl⟩ := h
    have hn : (c2 != 0) = true := by simpa using hc
    clear hf hc
    go_enter Try.func45, Try.ntmps45
    go_wp2
    exact bodyPost_ret (v := .tuple #[.agg #[.int .u64 0, .int .u64 0], .int .i64 10]) (by simp [results, Try.results45, go_sem]) rfl ⟨rfl, _, _, _, rfl⟩
theorem conv_str (W : World) (s : ByteArray) : ∃ cap W' C fr, (convert 9 99 (.string s)).run Try.prog W = .ok (.slice (some ⟨W.heap.size, 0, none⟩) s.size cap) W' ∧ Below W.heap.size W W' ∧ W'.heap[W.heap.size]? = some (.cells C 5 fr) ∧ ∀ j : Nat, j < s.size → C[j]? = some (.int .u8 (bt s (j : Int))) := by
  refine ⟨_, _, _, _, Lib.run_convert_string_bytes W 9 99 5 s Try.underlying9 Try.underlying99 Try.underlying5, ?_, Lib.bytesWorld_at_new W 5 s, fun j hj => ?_⟩
  · refine ⟨rfl, rfl, rfl, ?_, fun k hk => Lib.bytesWorld_at_old W 5 s k hk⟩
    rw [Lib.bytesWorld_size]
    omega
  · rw [← cell_of_row _ _ j _ _ _ (Lib.bytesWorld_at_new W 5 s), Lib.bytesWorld_cell W 5 s j hj]
    congr 2
    have e := bt_nb s j
    rw [e]
    unfold nb
    rw [List.getD_eq_getElem?_getD, List.getD_eq_getElem?_getD, List.getElem?_map, List.getElem?_eq_getElem (by simpa using hj)]
    rfl
theorem head48 (s : ByteArray) (h : 1 < s.size) : ((nb s).head? == some 48) = (bt s 0 == 48) := by
  have e := bt_nb s 0
  rw [show ((0 : Nat) : Int) = 0 from rfl] at e
  rw [e]
  have l := nb_length s
  cases hn : nb s with
  | nil => rw [hn] at l; simp at l; omega
  | cons x t => simp
theorem fold_up (l : List Int) (a : Int) (ha : 0 ≤ a) (hl : Dig l) : a ≤ l.foldl (fun a d => a * 10 + d) a := by
  have h := (valD_range l hl).1
  unfold valD at h
  rw [fold_cons]
  have p := ten_pos l.length
  have : a * 1 ≤ a * 10 ^ l.length := Int.mul_le_mul_of_nonneg_left (by omega) ha
  omega
theorem parse_step (x y d : Int) (hx : U64 x) (hy : U64 y) (d0 : 0 ≤ d) (d1 : d < 10) : ∃ t1 t2 t3 s1 s2 s3, u128_Times.f x y 10 = some (t1, t2, t3) ∧ u128_Add.f t1 t2 0 d = some (s1, s2, s3) ∧
    ((t3 = 0 ∧ s3 = 0 ∧ U64 s1 ∧ U64 s2 ∧ val s1 s2 = val x y * 10 + d) ∨ ((t3 ≠ 0 ∨ s3 ≠ 0) ∧ m128 ≤ val x y * 10 + d)) := by
  have vr := val_range x y hx hy
  have ud : U64 d := ⟨by omega, by omega⟩
  have z : U64 0 := ⟨by omega, by omega⟩
  by_cases c2 : val x y * 10 < m128
  · have ut := u_hiOf (val x y * 10) (by omega) c2
    by_cases c3 : val x y * 10 + d < m128
    · have un := u_hiOf (val x y * 10 + d) (by omega) c3
      refine ⟨hiOf (val x y * 10), loOf (val x y * 10), 0, hiOf (val x y * 10 + d), loOf (val x y * 10 + d), 0, ?_, ?_, .inl ⟨rfl, rfl, un.1, un.2, val_halves _⟩⟩
      · rw [times_num x y 10 hx hy ⟨by omega, by omega⟩, if_pos c2]
      · rw [add_num _ _ _ _ ut.1 ut.2 z ud, val_halves, small_val, if_pos c3]
    · refine ⟨hiOf (val x y * 10), loOf (val x y * 10), 0, 0, 0, 10, ?_, ?_, .inr ⟨.inr (by omega), by omega⟩⟩
      · rw [times_num x y 10 hx hy ⟨by omega, by omega⟩, if_pos c2]
      · rw [add_num _ _ _ _ ut.1 ut.2 z ud, val_halves, small_val, if_neg c3]
  · refine ⟨0, 0, 10, hiOf (0 + d), loOf (0 + d), 0, ?_, ?_, .inr ⟨.inl (by omega), by omega⟩⟩
    · rw [times_num x y 10 hx hy ⟨by omega, by omega⟩, if_neg c2]
    · rw [add_num _ _ _ _ z z z ud, small_val, small_val, if_pos (by unfold m128; omega)]
theorem blk_new_at (W : World) (o : Obj) (g : Nat) (h : W.heap.size = g) : (W.alloc o).heap[g]? = some o := h ▸ blk_new W o
theorem abs_world {Kx : Exit → Act → World → Prop} {e : Exit} {a : Act} {W : World} (F : World → Prop) (hF : F W) (h : ∀ W', F W' → Kx e a W') : Kx e a W := h W hF
def kept9 (w : World) (g5 g10 : Nat) (x y p q : Int) (C : Array Value) (fr : Nat × Nat) (W : World) : Prop :=
  W.heap[w.heap.size]? = some (.cells #[.int .u64 0, .int .u64 0] 25 (0, 0)) ∧ W.heap[g5]? = some (.cells #[.int .u64 x, .int .u64 y] 25 (0, 0)) ∧ W.heap[g5 + 1]? = some (.cells C 5 fr) ∧ W.heap[g10]? = some (.cells #[.int .u64 p, .int .u64 q] 25 (0, 0)) ∧ Below w.heap.size w W
set_option maxHeartbeats 4000000 in
set_option maxRecDepth 100000 in
theorem decimal_Parse.calls (a0 : ByteArray) (r1 r2 r3 : Int) (w : World) (h : decimal_Parse.f a0 = some (r1, r2, r3)) :
    Calls Try.prog 76 #[.string a0] w fun e w' => e = .returned (.tuple #[.agg #[.int .u64 r1, .int .u64 r2], .int .i64 r3]) ∧ Below w.heap.size w w' := by
  have hs : a0.size ≤ 1000000000 := by
    unfold decimal_Parse.f at h
    split at h
    · assumption
    · cases h
  rw [parse_num a0 hs] at h
  have h' := Option.some.inj h
  clear h
  unfold parseOf noNum at h'
  have co := contains_odd a0
  have bd : (nb a0).any (fun c => decide (c < 48) || decide (c > 57)) = (nb a0).any badB := rfl
  rw [bd] at h'
  have nl := nb_length a0
  by_cases z : a0.size = 0
  · have e0 : a0 = ⟨#[]⟩ := by
      apply ByteArray.ext
      exact Array.eq_empty_of_size_eq_zero z
    have en : (nb a0).isEmpty = true := by
      rw [List.eq_nil_of_length_eq_zero (show (nb a0).length = 0 by omega)]
      rfl
    rw [en, Bool.true_or, Bool.true_or, if_pos rfl] at h'
    cases h'
    subst e0
    go_enter Try.func76, Try.ntmps76
    go_wp2
    exact bodyPost_ret (v := .tuple #[.agg #[.int .u64 0, .int .u64 0], .int .i64 20]) (by simp [results, Try.results76, go_sem]) rfl ⟨rfl, below_alloc (Below.refl _ _) _⟩
  · have ne : (nb a0).isEmpty = false := by
      cases hn : nb a0 with
      | nil => rw [hn] at nl; simp at nl; omega
      | cons x t => rfl
    have s0 : (a0.toList == ([] : List UInt8)) = false := by
      rw [beq_eq_false_iff_ne]
      intro e
      rw [Lib.toList_data] at e
      have := congrArg List.length e
      simp at this
      exact z (by simp [ByteArray.size, this])
    rw [ne, Bool.false_or] at h'
    by_cases b : (nb a0).any badB = true
    · rw [b, Bool.true_or, if_pos rfl] at h'
      cases h'
      rw [b] at co
      go_enter Try.func76, Try.ntmps76
      go_wp2_with (first | (go_at_call 101; (with_reducible refine (co _).mono ?_); rintro e w' ⟨rfl, hb⟩; have BK := Aside0.mk (blk_below (blk_new w (.cells #[.int .u64 0, .int .u64 0] 25)) hb); have cz0 : w'.cell? ⟨w.heap.size, 0, none⟩ = some (.int .u64 0) := (blk_cell BK.out 0).trans rfl; have cz1 : w'.cell? ⟨w.heap.size, 1, none⟩ = some (.int .u64 0) := (blk_cell BK.out 1).trans rfl; have fz0 := blk_frozen BK.out 0; have fz1 := blk_frozen BK.out 1; have HB := Aside0.mk (below_step (below_alloc (Below.refl _ _) _) hb)))
      exact bodyPost_ret (v := .tuple #[.agg #[.int .u64 0, .int .u64 0], .int .i64 20]) (by simp [results, Try.results76, go_sem, cz0, cz1]) rfl ⟨rfl, below_set (below_set HB.out (Nat.le_refl _)) (Nat.le_refl _)⟩
    · have bf : (nb a0).any badB = false := by simpa using b
      rw [bf] at co
      rw [bf, Bool.false_or] at h'
      have p0 : 0 < a0.size := by omega
      by_cases q : 1 < a0.size ∧ bt a0 0 = 48
      · rw [decide_eq_true (show 1 < (nb a0).length by omega), head48 a0 q.1, q.2, Bool.true_and, if_pos (show ((48 : Int) == 48) = true from rfl)] at h'
        cases h'
        have l1 : decide ((1 : Int) < (a0.size : Int)) = true := decide_eq_true (by omega)
        have l0 : decide ((0 : Int) < (a0.size : Int)) = true := decide_eq_true (by omega)
        have b0 : ((a0[0]'p0).toNat : Int) = 48 := by rw [← q.2]; exact bt_at a0 0 p0
        go_enter Try.func76, Try.ntmps76
        go_wp2_with (first | (go_at_call 101; (with_reducible refine (co _).mono ?_); rintro e w' ⟨rfl, hb⟩; have BK := Aside0.mk (blk_below (blk_new w (.cells #[.int .u64 0, .int .u64 0] 25)) hb); have cz0 : w'.cell? ⟨w.heap.size, 0, none⟩ = some (.int .u64 0) := (blk_cell BK.out 0).trans rfl; have cz1 : w'.cell? ⟨w.heap.size, 1, none⟩ = some (.int .u64 0) := (blk_cell BK.out 1).trans rfl; have fz0 := blk_frozen BK.out 0; have fz1 := blk_frozen BK.out 1; have HB := Aside0.mk (below_step (below_alloc (Below.refl _ _) _) hb)))
        exact bodyPost_ret (v := .tuple #[.agg #[.int .u64 0, .int .u64 0], .int .i64 20]) (by simp [results, Try.results76, go_sem, cz0, cz1]) rfl ⟨rfl, below_set (below_set HB.out (Nat.le_refl _)) (Nat.le_refl _)⟩
      · have nz : (decide (1 < (nb a0).length) && (nb a0).head? == some 48) = false := by
          by_cases l : 1 < a0.size
          · rw [head48 a0 l]
            have : (bt a0 0 == 48) = false := by rw [beq_eq_false_iff_ne]; exact fun e => q ⟨l, e⟩
            rw [this, Bool.and_false]
          · rw [decide_eq_false (show ¬ 1 < (nb a0).length by omega), Bool.false_and]
        rw [nz, if_neg (by simp)] at h'
        have dN : Dig (unasc (nb a0)) := by
          intro d hd
          obtain ⟨c, hc, rfl⟩ := List.mem_map.1 hd
          have := (List.any_eq_false.1 bf) c hc
          unfold badB at this
          simp at this
          omega
        by_cases l : 1 < a0.size
        · have l1 : decide ((1 : Int) < (a0.size : Int)) = true := decide_eq_true (by omega)
          have l0 : decide ((0 : Int) < (a0.size : Int)) = true := decide_eq_true (by omega)
          have b0 : ((a0[0]'p0).toNat : Int) = bt a0 0 := bt_at a0 0 p0
          have b1 : (bt a0 0 == 48) = false := by rw [beq_eq_false_iff_ne]; exact fun e => q ⟨l, e⟩
          go_enter Try.func76, Try.ntmps76
          go_wp2_with (first | (go_at_call 101; (with_reducible refine (co _).mono ?_); rintro e w' ⟨rfl, hb⟩; have BK := Aside0.mk (blk_below (blk_new w (.cells #[.int .u64 0, .int .u64 0] 25)) hb); have cz0 : w'.cell? ⟨w.heap.size, 0, none⟩ = some (.int .u64 0) := (blk_cell BK.out 0).trans rfl; have cz1 : w'.cell? ⟨w.heap.size, 1, none⟩ = some (.int .u64 0) := (blk_cell BK.out 1).trans rfl; have fz0 := blk_frozen BK.out 0; have fz1 := blk_frozen BK.out 1; have HB := Aside0.mk (below_step (below_alloc (Below.refl _ _) _) hb); obtain ⟨cap, W2, C, fr, ecv, hb2, S2, SC⟩ := conv_str (w'.alloc (.cells #[.int .u64 0, .int .u64 0] 25)) a0; have R2 := Aside0.mk (blk_below (blk_alloc BK.out _) hb2); have A2 := Aside0.mk (blk_below (blk_new w' (.cells #[.int .u64 0, .int .u64 0] 25)) hb2); rw [World.size_alloc] at S2; have HB2 := Aside0.mk (below_step (below_alloc HB.out _) hb2); have lt5 := blk_lt BK.out; replace S2 := Aside0.mk S2; replace SC := Aside0.mk SC; clear hb hb2 BK cz0 cz1 fz0 fz1 HB; obtain ⟨g5, hg5⟩ : ∃ g, w'.heap.size = g := ⟨_, rfl⟩; rw [hg5] at S2 A2 lt5))
          go_loopg [33] (a0.size + 1) (fun g v33 W => ∃ (i : Nat) (x y : Int), v33 = .int .i64 (i : Int) ∧ Aside0 (i ≤ a0.size ∧ a0.size ≤ i + g) ∧ Aside0 (U64 x ∧ U64 y ∧ (unasc ((nb a0).drop i)).foldl (fun a d => a * 10 + d) (val x y) = valD (unasc (nb a0))) ∧ Aside0 (W.heap[w.heap.size]? = some (.cells #[.int .u64 0, .int .u64 0] 25 (0, 0))) ∧ Aside0 (W.heap[g5]? = some (.cells #[.int .u64 x, .int .u64 y] 25 (0, 0))) ∧ Aside0 (W.heap[g5 + 1]? = some (.cells C 5 fr)) ∧ Aside0 (Below w.heap.size w W))
          case atStart =>
            refine ⟨0, 0, 0, rfl, ⟨by omega, by omega⟩, ⟨⟨by omega, by omega⟩, ⟨by omega, by omega⟩, rfl⟩, R2, A2, S2, HB2⟩
          case round =>
            clear R2 A2 S2 HB2
            obtain ⟨i, x, y, rfl, J, V, R, A, S, HB⟩ := hrel
            have ay0 : wr.cell? ⟨g5, 0, none⟩ = some (.int .u64 x) := (blk_cell A.out 0).trans rfl
            have ay1 : wr.cell? ⟨g5, 1, none⟩ = some (.int .u64 y) := (blk_cell A.out 1).trans rfl
            have ry0 : wr.cell? ⟨w.heap.size, 0, none⟩ = some (.int .u64 0) := (blk_cell R.out 0).trans rfl
            have ry1 : wr.cell? ⟨w.heap.size, 1, none⟩ = some (.int .u64 0) := (blk_cell R.out 1).trans rfl
            have rz0 := blk_frozen R.out 0
            have rz1 := blk_frozen R.out 1
            have vr := val_range x y V.out.1 V.out.2.1
            by_cases c : i < a0.size
            · have cb : decide ((i : Int) < (a0.size : Int)) = true := decide_eq_true (by omega)
              obtain ⟨gi, rfl⟩ : ∃ g, gk = g + 1 := ⟨gk - 1, by have := J.out; omega⟩
              have cs := (cell_of_row wr (g5 + 1) i _ _ _ S.out).trans (SC.out i c)
              have dr : (nb a0).drop i = bt a0 (i : Int) :: (nb a0).drop (i + 1) := by
                rw [nb_cons a0 i c]
                congr 1
                exact bt_at a0 (i : Int) (by simpa using c)
              have fv := V.out.2.2
              rw [dr] at fv
              have hb48 : 0 ≤ bt a0 (i : Int) - 48 ∧ bt a0 (i : Int) - 48 < 10 := by
                refine dN _ (List.mem_map.2 ⟨bt a0 (i : Int), ?_, rfl⟩)
                refine List.mem_of_mem_drop (i := i) ?_
                rw [dr]
                exact List.mem_cons_self ..
              have fv' : (unasc ((nb a0).drop (i + 1))).foldl (fun a d => a * 10 + d) (val x y * 10 + (bt a0 (i : Int) - 48)) = valD (unasc (nb a0)) := fv
              have dT : Dig (unasc ((nb a0).drop (i + 1))) := fun d hd => dN d (by
                obtain ⟨q, hq, rfl⟩ := List.mem_map.1 hd
                exact List.mem_map.2 ⟨q, List.mem_of_mem_drop hq, rfl⟩)
              generalize bt a0 (i : Int) = bc at *
              have wd : IntKind.u8.wrap (bc - 48) = bc - 48 := by rw [IntKind.wrap_u8]; omega
              have wd2 : IntKind.u64.wrap (bc - 48) = bc - 48 := wu _ (by omega) (by omega)
              have wd3 : (bc - 48) % 256 = bc - 48 := by omega
              obtain ⟨d, hd⟩ : ∃ d, bc - 48 = d := ⟨_, rfl⟩
              rw [hd] at wd wd2 wd3 hb48 fv'
              have hO : u128_Of.f d = some (0, d) := rfl
              have wdd : IntKind.u64.wrap (IntKind.u8.wrap (bc - 48)) = d := by rw [hd, wd, wd2]
              clear cb fv dr hd
              obtain ⟨t1, t2, t3, s1, s2, s3, hT, hA, O⟩ := parse_step x y d V.out.1 V.out.2.1 hb48.1 hb48.2
              replace O := Aside0.mk O
              replace fv' := Aside0.mk fv'
              replace dT := Aside0.mk dT
              replace vr := Aside0.mk vr
              replace h' := Aside0.mk h'
              go_wp2_with (first
                | (go_at_call 56; (with_reducible refine (u128_Times.calls x y 10 _ _ _ _ hT).mono ?_); rintro e W3 ⟨rfl, hb3⟩; have A3 := Aside0.mk (blk_below A.out hb3); have R3 := Aside0.mk (blk_below R.out hb3); have S3 := Aside0.mk (blk_below S.out hb3); have HB3 := Aside0.mk (below_step HB.out hb3); clear hb3; clear ay0 ay1 ry0 ry1 rz0 rz1 A R S HB))
              clear cs SC hT co bd nl z ne s0 b bf nz dN wd wd2 wd3
              go_region_with (first
                | (go_at_call 51; (with_reducible refine (of_exact d _).mono ?_); rintro e W4 ⟨rfl, o0, rfl⟩)
                | (go_at_call 45; (with_reducible refine (add_exact _ _ _ _ _ _ _ _ hA).mono ?_); rintro e W5 ⟨rfl, o1, o2, o3, rfl⟩))
              all_goals
                (first
                  | (refine abs_world (kept9 w g5 (W3.heap.size + 1) x y s1 s2 C fr) ⟨blk_drew (blk_alloc (blk_alloc (blk_alloc (blk_alloc (blk_alloc (blk_alloc R3.out _) _) _) _) _) _), blk_drew (blk_alloc (blk_alloc (blk_alloc (blk_alloc (blk_alloc (blk_alloc A3.out _) _) _) _) _) _), blk_drew (blk_alloc (blk_alloc (blk_alloc (blk_alloc (blk_alloc (blk_alloc S3.out _) _) _) _) _) _), ?_, below_drew1 (below_alloc (below_alloc (below_alloc (below_alloc (below_alloc (below_alloc HB3.out _) _) _) _) _) _)⟩ ?_; (refine blk_drew ?_; repeat (first | (focus (refine blk_new_at _ _ _ ?_; simp; done)) | refine blk_alloc ?_ _)); intro W6 K9)
                  | (refine abs_world (kept9 w g5 (W3.heap.size + 1 + 1) x y s1 s2 C fr) ⟨blk_drew (blk_alloc (blk_alloc (blk_alloc (blk_alloc (blk_alloc (blk_alloc R3.out _) _) _) _) _) _), blk_drew (blk_alloc (blk_alloc (blk_alloc (blk_alloc (blk_alloc (blk_alloc A3.out _) _) _) _) _) _), blk_drew (blk_alloc (blk_alloc (blk_alloc (blk_alloc (blk_alloc (blk_alloc S3.out _) _) _) _) _) _), ?_, below_drew1 (below_alloc (below_alloc (below_alloc (below_alloc (below_alloc (below_alloc HB3.out _) _) _) _) _) _)⟩ ?_; (refine blk_drew ?_; repeat (first | (focus (refine blk_new_at _ _ _ ?_; simp; done)) | refine blk_alloc ?_ _)); intro W6 K9)
                  | (refine abs_world (kept9 w g5 (W3.heap.size + 1 + 1 + 1 + 1 + 1) x y s1 s2 C fr) ⟨blk_drew (blk_alloc (blk_alloc (blk_alloc (blk_alloc (blk_alloc (blk_alloc R3.out _) _) _) _) _) _), blk_drew (blk_alloc (blk_alloc (blk_alloc (blk_alloc (blk_alloc (blk_alloc A3.out _) _) _) _) _) _), blk_drew (blk_alloc (blk_alloc (blk_alloc (blk_alloc (blk_alloc (blk_alloc S3.out _) _) _) _) _) _), ?_, below_drew1 (below_alloc (below_alloc (below_alloc (below_alloc (below_alloc (below_alloc HB3.out _) _) _) _) _) _)⟩ ?_; (refine blk_drew ?_; repeat (first | (focus (refine blk_new_at _ _ _ ?_; simp; done)) | refine blk_alloc ?_ _)); intro W6 K9))
                clear A3 R3 S3 HB3 o0 o1 o2 o3 wdd hA
                obtain ⟨R6, A6, S6, T6, HB6⟩ := K9
                have ty0 := (blk_cell T6 0).trans (show _ = some (Value.int .u64 s1) from rfl)
                have ty1 := (blk_cell T6 1).trans (show _ = some (Value.int .u64 s2) from rfl)
                have ay0 : W6.cell? ⟨g5, 0, none⟩ = some (.int .u64 x) := (blk_cell A6 0).trans rfl
                have ay1 : W6.cell? ⟨g5, 1, none⟩ = some (.int .u64 y) := (blk_cell A6 1).trans rfl
                have az0 := blk_frozen A6 0
                have az1 := blk_frozen A6 1
                have ry0 : W6.cell? ⟨w.heap.size, 0, none⟩ = some (.int .u64 0) := (blk_cell R6 0).trans rfl
                have ry1 : W6.cell? ⟨w.heap.size, 1, none⟩ = some (.int .u64 0) := (blk_cell R6 1).trans rfl
                have rz0 := blk_frozen R6 0
                have rz1 := blk_frozen R6 1
                replace R6 := Aside0.mk R6
                replace A6 := Aside0.mk A6
                replace S6 := Aside0.mk S6
                replace HB6 := Aside0.mk HB6
                clear T6
                rcases O.out with ⟨rfl, rfl, u1, u2, ve⟩ | ⟨oe, ge⟩
                · clear O
                  go_wp2
                  go_roundg gi
                  case measure => omega
                  case rel =>
                    refine ⟨i + 1, s1, s2, ?_, ⟨?_⟩, ⟨u1, u2, ?_⟩, ⟨?_⟩, ⟨?_⟩, ⟨?_⟩, ⟨?_⟩⟩
                    · rw [show ((i + 1 : Nat) : Int) = (i : Int) + 1 from by omega]
                    · have := J.out; omega
                    · rw [ve]; exact fv'.out
                    · exact blk_far (blk_far R6.out (by show w.heap.size ≠ g5; omega) _) (by show w.heap.size ≠ g5; omega) _
                    · exact blk_put (blk_put A6.out 0 _ rfl) 1 _ rfl
                    · exact (Below.heap_setCell _ ⟨g5, 1, none⟩ _ (g5 + 1) (by show g5 + 1 ≠ g5; omega)).trans ((Below.heap_setCell _ ⟨g5, 0, none⟩ _ (g5 + 1) (by show g5 + 1 ≠ g5; omega)).trans S6.out)
                    · exact below_set (below_set HB6.out (by omega)) (by omega)
                · have big : ¬ valD (unasc (nb a0)) < m128 := by
                    rw [← fv'.out]
                    have v0 := vr.out.1
                    have d0 : 0 ≤ d := by omega
                    have := fold_up _ (val x y * 10 + d) (by omega) dT.out
                    omega
                  have hh := h'.out
                  rw [if_neg big] at hh
                  cases hh
                  clear O
                  by_cases t : t3 = 0
                  · subst t
                    have s3b : (s3 != 0) = true := by
                      rw [bne_iff_ne]
                      rcases oe with h | h
                      · exact absurd rfl h
                      · exact h
                    go_wp2
                    exact bodyPost_ret (v := .tuple #[.agg #[.int .u64 0, .int .u64 0], .int .i64 10]) (by simp [results, Try.results76, go_sem, ry0, ry1]) rfl ⟨rfl, below_set (below_set HB6.out (Nat.le_refl _)) (Nat.le_refl _)⟩
                  · have t3b : (t3 != 0) = true := bne_iff_ne.mpr t
                    go_wp2
                    exact bodyPost_ret (v := .tuple #[.agg #[.int .u64 0, .int .u64 0], .int .i64 10]) (by simp [results, Try.results76, go_sem, ry0, ry1]) rfl ⟨rfl, below_set (below_set HB6.out (Nat.le_refl _)) (Nat.le_refl _)⟩
            · have cb : decide ((i : Int) < (a0.size : Int)) = false := decide_eq_false (by omega)
              obtain rfl : i = a0.size := by have := J.out; omega
              go_wp2
              have vv : val x y = valD (unasc (nb a0)) := by
                rw [← V.out.2.2, List.drop_of_length_le (by omega)]
                rfl
              rw [← vv, if_pos vr.2, hiOf_val x y V.out.2.1, loOf_val x y V.out.2.1] at h'
              cases h'
              exact bodyPost_ret (v := .tuple #[.agg #[.int .u64 r1, .int .u64 r2], .int .i64 0]) (by simp [results, Try.results76, go_sem, ry0, ry1]) rfl ⟨rfl, below_set (below_set HB.out (Nat.le_refl _)) (Nat.le_refl _)⟩
        · have l1 : decide ((1 : Int) < (a0.size : Int)) = false := decide_eq_false (by omega)
          go_enter Try.func76, Try.ntmps76
          go_wp2_with (first | (go_at_call 101; (with_reducible refine (co _).mono ?_); rintro e w' ⟨rfl, hb⟩; have BK := Aside0.mk (blk_below (blk_new w (.cells #[.int .u64 0, .int .u64 0] 25)) hb); have cz0 : w'.cell? ⟨w.heap.size, 0, none⟩ = some (.int .u64 0) := (blk_cell BK.out 0).trans rfl; have cz1 : w'.cell? ⟨w.heap.size, 1, none⟩ = some (.int .u64 0) := (blk_cell BK.out 1).trans rfl; have fz0 := blk_frozen BK.out 0; have fz1 := blk_frozen BK.out 1; have HB := Aside0.mk (below_step (below_alloc (Below.refl _ _) _) hb); obtain ⟨cap, W2, C, fr, ecv, hb2, S2, SC⟩ := conv_str (w'.alloc (.cells #[.int .u64 0, .int .u64 0] 25)) a0; have R2 := Aside0.mk (blk_below (blk_alloc BK.out _) hb2); have A2 := Aside0.mk (blk_below (blk_new w' (.cells #[.int .u64 0, .int .u64 0] 25)) hb2); rw [World.size_alloc] at S2; have HB2 := Aside0.mk (below_step (below_alloc HB.out _) hb2); have lt5 := blk_lt BK.out; replace S2 := Aside0.mk S2; replace SC := Aside0.mk SC; clear hb hb2 BK cz0 cz1 fz0 fz1 HB; obtain ⟨g5, hg5⟩ : ∃ g, w'.heap.size = g := ⟨_, rfl⟩; rw [hg5] at S2 A2 lt5))
          go_loopg [33] (a0.size + 1) (fun g v33 W => ∃ (i : Nat) (x y : Int), v33 = .int .i64 (i : Int) ∧ Aside0 (i ≤ a0.size ∧ a0.size ≤ i + g) ∧ Aside0 (U64 x ∧ U64 y ∧ (unasc ((nb a0).drop i)).foldl (fun a d => a * 10 + d) (val x y) = valD (unasc (nb a0))) ∧ Aside0 (W.heap[w.heap.size]? = some (.cells #[.int .u64 0, .int .u64 0] 25 (0, 0))) ∧ Aside0 (W.heap[g5]? = some (.cells #[.int .u64 x, .int .u64 y] 25 (0, 0))) ∧ Aside0 (W.heap[g5 + 1]? = some (.cells C 5 fr)) ∧ Aside0 (Below w.heap.size w W))
          case atStart =>
            refine ⟨0, 0, 0, rfl, ⟨by omega, by omega⟩, ⟨⟨by omega, by omega⟩, ⟨by omega, by omega⟩, rfl⟩, R2, A2, S2, HB2⟩
          case round =>
            clear R2 A2 S2 HB2
            obtain ⟨i, x, y, rfl, J, V, R, A, S, HB⟩ := hrel
            have ay0 : wr.cell? ⟨g5, 0, none⟩ = some (.int .u64 x) := (blk_cell A.out 0).trans rfl
            have ay1 : wr.cell? ⟨g5, 1, none⟩ = some (.int .u64 y) := (blk_cell A.out 1).trans rfl
            have ry0 : wr.cell? ⟨w.heap.size, 0, none⟩ = some (.int .u64 0) := (blk_cell R.out 0).trans rfl
            have ry1 : wr.cell? ⟨w.heap.size, 1, none⟩ = some (.int .u64 0) := (blk_cell R.out 1).trans rfl
            have rz0 := blk_frozen R.out 0
            have rz1 := blk_frozen R.out 1
            have vr := val_range x y V.out.1 V.out.2.1
            by_cases c : i < a0.size
            · have cb : decide ((i : Int) < (a0.size : Int)) = true := decide_eq_true (by omega)
              obtain ⟨gi, rfl⟩ : ∃ g, gk = g + 1 := ⟨gk - 1, by have := J.out; omega⟩
              have cs := (cell_of_row wr (g5 + 1) i _ _ _ S.out).trans (SC.out i c)
              have dr : (nb a0).drop i = bt a0 (i : Int) :: (nb a0).drop (i + 1) := by
                rw [nb_cons a0 i c]
                congr 1
                exact bt_at a0 (i : Int) (by simpa using c)
              have fv := V.out.2.2
              rw [dr] at fv
              have hb48 : 0 ≤ bt a0 (i : Int) - 48 ∧ bt a0 (i : Int) - 48 < 10 := by
                refine dN _ (List.mem_map.2 ⟨bt a0 (i : Int), ?_, rfl⟩)
                refine List.mem_of_mem_drop (i := i) ?_
                rw [dr]
                exact List.mem_cons_self ..
              have fv' : (unasc ((nb a0).drop (i + 1))).foldl (fun a d => a * 10 + d) (val x y * 10 + (bt a0 (i : Int) - 48)) = valD (unasc (nb a0)) := fv
              have dT : Dig (unasc ((nb a0).drop (i + 1))) := fun d hd => dN d (by
                obtain ⟨q, hq, rfl⟩ := List.mem_map.1 hd
                exact List.mem_map.2 ⟨q, List.mem_of_mem_drop hq, rfl⟩)
              generalize bt a0 (i : Int) = bc at *
              have wd : IntKind.u8.wrap (bc - 48) = bc - 48 := by rw [IntKind.wrap_u8]; omega
              have wd2 : IntKind.u64.wrap (bc - 48) = bc - 48 := wu _ (by omega) (by omega)
              have wd3 : (bc - 48) % 256 = bc - 48 := by omega
              obtain ⟨d, hd⟩ : ∃ d, bc - 48 = d := ⟨_, rfl⟩
              rw [hd] at wd wd2 wd3 hb48 fv'
              have hO : u128_Of.f d = some (0, d) := rfl
              have wdd : IntKind.u64.wrap (IntKind.u8.wrap (bc - 48)) = d := by rw [hd, wd, wd2]
              clear cb fv dr hd
              obtain ⟨t1, t2, t3, s1, s2, s3, hT, hA, O⟩ := parse_step x y d V.out.1 V.out.2.1 hb48.1 hb48.2
              replace O := Aside0.mk O
              replace fv' := Aside0.mk fv'
              replace dT := Aside0.mk dT
              replace vr := Aside0.mk vr
              replace h' := Aside0.mk h'
              go_wp2_with (first
                | (go_at_call 56; (with_reducible refine (u128_Times.calls x y 10 _ _ _ _ hT).mono ?_); rintro e W3 ⟨rfl, hb3⟩; have A3 := Aside0.mk (blk_below A.out hb3); have R3 := Aside0.mk (blk_below R.out hb3); have S3 := Aside0.mk (blk_below S.out hb3); have HB3 := Aside0.mk (below_step HB.out hb3); clear hb3; clear ay0 ay1 ry0 ry1 rz0 rz1 A R S HB))
              clear cs SC hT co bd nl z ne s0 b bf nz dN wd wd2 wd3
              go_region_with (first
                | (go_at_call 51; (with_reducible refine (of_exact d _).mono ?_); rintro e W4 ⟨rfl, o0, rfl⟩)
                | (go_at_call 45; (with_reducible refine (add_exact _ _ _ _ _ _ _ _ hA).mono ?_); rintro e W5 ⟨rfl, o1, o2, o3, rfl⟩))
              all_goals
                (first
                  | (refine abs_world (kept9 w g5 (W3.heap.size + 1) x y s1 s2 C fr) ⟨blk_drew (blk_alloc (blk_alloc (blk_alloc (blk_alloc (blk_alloc (blk_alloc R3.out _) _) _) _) _) _), blk_drew (blk_alloc (blk_alloc (blk_alloc (blk_alloc (blk_alloc (blk_alloc A3.out _) _) _) _) _) _), blk_drew (blk_alloc (blk_alloc (blk_alloc (blk_alloc (blk_alloc (blk_alloc S3.out _) _) _) _) _) _), ?_, below_drew1 (below_alloc (below_alloc (below_alloc (below_alloc (below_alloc (below_alloc HB3.out _) _) _) _) _) _)⟩ ?_; (refine blk_drew ?_; repeat (first | (focus (refine blk_new_at _ _ _ ?_; simp; done)) | refine blk_alloc ?_ _)); intro W6 K9)
                  | (refine abs_world (kept9 w g5 (W3.heap.size + 1 + 1) x y s1 s2 C fr) ⟨blk_drew (blk_alloc (blk_alloc (blk_alloc (blk_alloc (blk_alloc (blk_alloc R3.out _) _) _) _) _) _), blk_drew (blk_alloc (blk_alloc (blk_alloc (blk_alloc (blk_alloc (blk_alloc A3.out _) _) _) _) _) _), blk_drew (blk_alloc (blk_alloc (blk_alloc (blk_alloc (blk_alloc (blk_alloc S3.out _) _) _) _) _) _), ?_, below_drew1 (below_alloc (below_alloc (below_alloc (below_alloc (below_alloc (below_alloc HB3.out _) _) _) _) _) _)⟩ ?_; (refine blk_drew ?_; repeat (first | (focus (refine blk_new_at _ _ _ ?_; simp; done)) | refine blk_alloc ?_ _)); intro W6 K9)
                  | (refine abs_world (kept9 w g5 (W3.heap.size + 1 + 1 + 1 + 1 + 1) x y s1 s2 C fr) ⟨blk_drew (blk_alloc (blk_alloc (blk_alloc (blk_alloc (blk_alloc (blk_alloc R3.out _) _) _) _) _) _), blk_drew (blk_alloc (blk_alloc (blk_alloc (blk_alloc (blk_alloc (blk_alloc A3.out _) _) _) _) _) _), blk_drew (blk_alloc (blk_alloc (blk_alloc (blk_alloc (blk_alloc (blk_alloc S3.out _) _) _) _) _) _), ?_, below_drew1 (below_alloc (below_alloc (below_alloc (below_alloc (below_alloc (below_alloc HB3.out _) _) _) _) _) _)⟩ ?_; (refine blk_drew ?_; repeat (first | (focus (refine blk_new_at _ _ _ ?_; simp; done)) | refine blk_alloc ?_ _)); intro W6 K9))
                clear A3 R3 S3 HB3 o0 o1 o2 o3 wdd hA
                obtain ⟨R6, A6, S6, T6, HB6⟩ := K9
                have ty0 := (blk_cell T6 0).trans (show _ = some (Value.int .u64 s1) from rfl)
                have ty1 := (blk_cell T6 1).trans (show _ = some (Value.int .u64 s2) from rfl)
                have ay0 : W6.cell? ⟨g5, 0, none⟩ = some (.int .u64 x) := (blk_cell A6 0).trans rfl
                have ay1 : W6.cell? ⟨g5, 1, none⟩ = some (.int .u64 y) := (blk_cell A6 1).trans rfl
                have az0 := blk_frozen A6 0
                have az1 := blk_frozen A6 1
                have ry0 : W6.cell? ⟨w.heap.size, 0, none⟩ = some (.int .u64 0) := (blk_cell R6 0).trans rfl
                have ry1 : W6.cell? ⟨w.heap.size, 1, none⟩ = some (.int .u64 0) := (blk_cell R6 1).trans rfl
                have rz0 := blk_frozen R6 0
                have rz1 := blk_frozen R6 1
                replace R6 := Aside0.mk R6
                replace A6 := Aside0.mk A6
                replace S6 := Aside0.mk S6
                replace HB6 := Aside0.mk HB6
                clear T6
                rcases O.out with ⟨rfl, rfl, u1, u2, ve⟩ | ⟨oe, ge⟩
                · clear O
                  go_wp2
                  go_roundg gi
                  case measure => omega
                  case rel =>
                    refine ⟨i + 1, s1, s2, ?_, ⟨?_⟩, ⟨u1, u2, ?_⟩, ⟨?_⟩, ⟨?_⟩, ⟨?_⟩, ⟨?_⟩⟩
                    · rw [show ((i + 1 : Nat) : Int) = (i : Int) + 1 from by omega]
                    · have := J.out; omega
                    · rw [ve]; exact fv'.out
                    · exact blk_far (blk_far R6.out (by show w.heap.size ≠ g5; omega) _) (by show w.heap.size ≠ g5; omega) _
                    · exact blk_put (blk_put A6.out 0 _ rfl) 1 _ rfl
                    · exact (Below.heap_setCell _ ⟨g5, 1, none⟩ _ (g5 + 1) (by show g5 + 1 ≠ g5; omega)).trans ((Below.heap_setCell _ ⟨g5, 0, none⟩ _ (g5 + 1) (by show g5 + 1 ≠ g5; omega)).trans S6.out)
                    · exact below_set (below_set HB6.out (by omega)) (by omega)
                · have big : ¬ valD (unasc (nb a0)) < m128 := by
                    rw [← fv'.out]
                    have v0 := vr.out.1
                    have d0 : 0 ≤ d := by omega
                    have := fold_up _ (val x y * 10 + d) (by omega) dT.out
                    omega
                  have hh := h'.out
                  rw [if_neg big] at hh
                  cases hh
                  clear O
                  by_cases t : t3 = 0
                  · subst t
                    have s3b : (s3 != 0) = true := by
                      rw [bne_iff_ne]
                      rcases oe with h | h
                      · exact absurd rfl h
                      · exact h
                    go_wp2
                    exact bodyPost_ret (v := .tuple #[.agg #[.int .u64 0, .int .u64 0], .int .i64 10]) (by simp [results, Try.results76, go_sem, ry0, ry1]) rfl ⟨rfl, below_set (below_set HB6.out (Nat.le_refl _)) (Nat.le_refl _)⟩
                  · have t3b : (t3 != 0) = true := bne_iff_ne.mpr t
                    go_wp2
                    exact bodyPost_ret (v := .tuple #[.agg #[.int .u64 0, .int .u64 0], .int .i64 10]) (by simp [results, Try.results76, go_sem, ry0, ry1]) rfl ⟨rfl, below_set (below_set HB6.out (Nat.le_refl _)) (Nat.le_refl _)⟩
            · have cb : decide ((i : Int) < (a0.size : Int)) = false := decide_eq_false (by omega)
              obtain rfl : i = a0.size := by have := J.out; omega
              go_wp2
              have vv : val x y = valD (unasc (nb a0)) := by
                rw [← V.out.2.2, List.drop_of_length_le (by omega)]
                rfl
              rw [← vv, if_pos vr.2, hiOf_val x y V.out.2.1, loOf_val x y V.out.2.1] at h'
              cases h'
              exact bodyPost_ret (v := .tuple #[.agg #[.int .u64 r1, .int .u64 r2], .int .i64 0]) (by simp [results, Try.results76, go_sem, ry0, ry1]) rfl ⟨rfl, below_set (below_set HB.out (Nat.le_refl _)) (Nat.le_refl _)⟩
end Go.Proofs.Ytpkjpiphjdpegaa.P
namespace Go.Proofs.Ytpkjpiphjdpegaa.P
open Go.Shelf Go.RowKit
def sh_lays156_ren : Go.Shelf.Ren := ⟨fun | 156 => 95 | 165 => 108 | 166 => 109 | 169 => 110 | 240 => 119 | 241 => 120 | 276 => 128 | 277 => 129 | n => n, fun | 31 => 73 | 9 => 9 | 3 => 3 | 4 => 4 | 0 => 0 | 20 => 20 | 72 => 129 | 76 => 130 | 70 => 127 | 37 => 99 | 75 => 122 | 127 => 138 | 164 => 143 | 5 => 5 | 80 => 132 | n => n, fun | n => n⟩
theorem sh_lays156 : Go.Proofs.Lays.n156 Try.prog sh_lays156_ren := {
  mixed := by kernel_rfl
  f156 := Try.func95.trans (congrArg some (by kernel_rfl))
  f165 := Try.func108.trans (congrArg some (by kernel_rfl))
  f166 := Try.func109.trans (congrArg some (by kernel_rfl))
  f169 := Try.func110.trans (congrArg some (by kernel_rfl))
  f240 := Try.func119.trans (congrArg some (by kernel_rfl))
  f241 := Try.func120.trans (congrArg some (by kernel_rfl))
  f276 := Try.func128.trans (congrArg some (by kernel_rfl))
  f277 := Try.func129.trans (congrArg some (by kernel_rfl))
  t0 := Try.underlying0
  a0 := Try.isAgg0
  z0 := Try.sizeOf0
  v0 := Try.zeroValue0
  t3 := Try.underlying3
  a3 := Try.isAgg3
  z3 := Try.sizeOf3
  v3 := Try.zeroValue3
  t4 := Try.underlying4
  a4 := Try.isAgg4
  z4 := Try.sizeOf4
  v4 := Try.zeroValue4
  t9 := Try.underlying9
  a9 := Try.isAgg9
  z9 := Try.sizeOf9
  v9 := Try.zeroValue9
  t20 := Try.underlying20
  a20 := Try.isAgg20
  z20 := Try.sizeOf20
  v20 := Try.zeroValue20
  t31 := Try.underlying73
  a31 := Try.isAgg73
  z31 := Try.sizeOf73
  v31 := Try.zeroValue73
  t37 := Try.underlying99
  a37 := Try.isAgg99
  z37 := Try.sizeOf99
  v37 := Try.zeroValue99
  t70 := Try.underlying127
  a70 := Try.isAgg127
  z70 := Try.sizeOf127
  v70 := Try.zeroValue127
  t72 := Try.underlying129
  a72 := Try.isAgg129
  z72 := Try.sizeOf129
  v72 := Try.zeroValue129
  t75 := Try.underlying122
  a75 := Try.isAgg122
  z75 := Try.sizeOf122
  v75 := Try.zeroValue122
  t76 := Try.underlying130
  a76 := Try.isAgg130
  z76 := Try.sizeOf130
  v76 := Try.zeroValue130
  t127 := Try.underlying138
  a127 := Try.isAgg138
  z127 := Try.sizeOf138
  v127 := Try.zeroValue138
  t164 := Try.underlying143
  a164 := Try.isAgg143
  z164 := Try.sizeOf143
  v164 := Try.zeroValue143 }
theorem sh_Builder_Extra_156 : Builder.Extra Try.prog sh_lays156_ren := {
  sizeBuilder := by kernel_rfl
  liesBuilder := by kernel_rfl
  t5 := Try.underlying5
  a5 := Try.isAgg5
  z5 := Try.sizeOf5
  v5 := Try.zeroValue5
  infoByte := by kernel_rfl
  cellsByte := by kernel_rfl
  sizeByte := by kernel_rfl
  neB5 := by decide }
open Go.RowKit in
open Go.RowKit in
theorem sh_strings_Join (bk o c : Nat) (xs : List ByteArray) (sep : ByteArray) (w : World) (hcells : ∀ (j : Nat) x, xs[j]? = some x → w.cell? ⟨bk, o + j, none⟩ = some (.string x)) (hbk : bk < w.heap.size) (hN : xs.length ≤ 140737488355328) (hcap : xs.length ≤ c) (hlen : (Lib.join (xs.map (·.data.toList)) sep.data.toList).length ≤ 140737488355328) :
    Calls Try.prog 95 #[.slice (some ⟨bk, o, none⟩) xs.length c, .string sep] w fun e w' => e = .returned (.string ⟨(Lib.join (xs.map (·.data.toList)) sep.data.toList).toArray⟩) ∧ Below w.heap.size w w' := Any.strings_Join sh_lays156 sh_Builder_Extra_156 bk o c xs sep w hcells hbk hN hcap hlen
end Go.Proofs.Ytpkjpiphjdpegaa.P
namespace Go.Proofs.Ytpkjpiphjdpegaa.P
open Go.RowKit Go.Proofs.YtpkjpiphjdpegaaW.PrintWords Go.Proofs.YtpkjpiphjdpegaaW.PrintLast Go.Proofs.YtpkjpiphjdpegaaW.PrintMore
set_option linter.unusedVariables false
set_option linter.unusedSimpArgs false
def strs (xs : List ByteArray) : List Value := xs.map .string
theorem own_slice {w : World} {base n : Nat} {v : Value} {xs : List Value} (h : w.ownsRow base 9 1 v n xs) : ∃ A c, v = .slice A n c := by
  rcases h.2 with ⟨rfl, rfl⟩ | ⟨g, cap, cur, rfl, _⟩
  · exact ⟨_, _, rfl⟩
  · exact ⟨_, _, rfl⟩
theorem own_heap {w W : World} {base n : Nat} {v : Value} {xs : List Value} (h : w.ownsRow base 9 1 v n xs) (e : ∀ g, v.ownBlock = some g → W.heap[g]? = w.heap[g]?) : W.ownsRow base 9 1 v n xs := by
  refine ⟨h.1, ?_⟩
  rcases h.2 with h2 | ⟨g, cap, cur, rfl, hg, hh, r⟩
  · exact .inl h2
  · exact .inr ⟨g, cap, cur, rfl, hg, (e g rfl).trans hh, r⟩
set_option maxHeartbeats 4000000 in
set_option maxRecDepth 100000 in
theorem cut_calls (n : Nat) (base B3 B4 : Nat) (s : ByteArray) (v : Value) (xs : List ByteArray) (w : World) (h3 : w.heap[B3]? = some (.cells #[.string s] 9 (0, 0))) (h4 : w.heap[B4]? = some (.cells #[v] 73 (0, 0))) (H : w.ownsRow base 9 1 v xs.length (strs xs)) (hb3 : base ≤ B3) (hb4 : base ≤ B4) (n3 : v.ownBlock ≠ some B3) (n4 : v.ownBlock ≠ some B4) (ne : B3 ≠ B4) (hn' : n ≤ s.size) (hx : xs.length ≤ 1000) :
    Calls Try.prog 102 #[.int .i64 (n : Int), .pointer (some ⟨B4, 0, none⟩), .pointer (some ⟨B3, 0, none⟩)] w fun e w' => e = .returned (.tuple #[]) ∧ ∃ v', w'.heap[B3]? = some (.cells #[.string (s.extract n s.size)] 9 (0, 0)) ∧ w'.heap[B4]? = some (.cells #[v'] 73 (0, 0)) ∧ w'.ownsRow base 9 1 v' (xs.length + 1) (strs (xs ++ [s.extract 0 n])) ∧ v'.ownBlock ≠ some B3 ∧ v'.ownBlock ≠ some B4 ∧ Below base w w' := by
  have c3 : w.cell? ⟨B3, 0, none⟩ = some (.string s) := (blk_cell h3 0).trans rfl
  have c4 : w.cell? ⟨B4, 0, none⟩ = some v := (blk_cell h4 0).trans rfl
  have f3 := blk_frozen h3 0
  have f4 := blk_frozen h4 0
  have lt3 := blk_lt h3
  have lt4 := blk_lt h4
  have hb : base ≤ w.heap.size := by omega
  have p1 : (n : Int) ≤ (s.size : Int) := by omega
  have p0 : (0 : Int) ≤ (n : Int) := by omega
  have hd := Aside0.mk (show w.drew.ownsRow base 9 1 v xs.length (strs xs) from H)
  have hB := Aside0.mk (below_drew1 (Below.refl base w))
  go_enter Try.func102, Try.ntmps102
  go_wp2
  have one : ∀ u ∈ ([.string (s.extract 0 n)] : List Value), u.oneCell' = true := fun u hu => by
    have e : u = .string (s.extract 0 n) := by simpa using hu
    subst e
    rfl
  go_region_law (rw [show (w.alloc (.cells #[.string (s.extract 0 n)] 9)).drew = w.drew.alloc (.cells #[.string (s.extract 0 n)] 9) from rfl]; refine step_append_cells (w0 := w) base (by rfl) (.tmp 4) (.tmp 8) 73 9 (.string ⟨#[]⟩) 1 16 ?ho Try.underlying73 info9 rfl (by omega) (by omega) v xs.length (strs xs) [.string (s.extract 0 n)] ?hs ?hx rfl one hd.out hB.out hb (by omega) ?_; (case ho => rfl); (case hs => simp [Act.eval, Act.put]); (case hx => simp [Act.eval, Act.put]); intro v1 w1 ho1 hb1 hg1 hv1; have h4' := Aside0.mk (blk_grown (show w.drew.heap[B4]? = _ from h4) hg1 n4.symm); have h3' := Aside0.mk (blk_grown (show w.drew.heap[B3]? = _ from h3) hg1 n3.symm); have c4' : w1.cell? ⟨B4, 0, none⟩ = some v := (blk_cell h4'.out 0).trans rfl; have c3' : w1.cell? ⟨B3, 0, none⟩ = some (.string s) := (blk_cell h3'.out 0).trans rfl; have f4' := blk_frozen h4'.out 0; have f3' := blk_frozen h3'.out 0; obtain ⟨A1, cc1, hv0⟩ := own_slice ho1; subst hv0; replace ho1 := Aside0.mk ho1; replace hb1 := Aside0.mk hb1; replace hv1 := Aside0.mk hv1; clear hg1)
  all_goals
    have ne' := ne.symm
    go_wp2
  all_goals
    have q3 : (Value.slice A1 (xs.length + 1) cc1).ownBlock ≠ some B3 := by
      rcases hv1.out with e | ⟨b, e, hb⟩
      · rw [e]; exact n3
      · rw [e]
        intro h
        have : b = B3 := Option.some.inj h
        have hb' : w.heap.size ≤ b := hb
        omega
    have q4 : (Value.slice A1 (xs.length + 1) cc1).ownBlock ≠ some B4 := by
      rcases hv1.out with e | ⟨b, e, hb⟩
      · rw [e]; exact n4
      · rw [e]
        intro h
        have : b = B4 := Option.some.inj h
        have hb' : w.heap.size ≤ b := hb
        omega
    refine bodyPost_end (v := .tuple #[]) (by simp [results, Try.results102, go_sem]) rfl ?_
    refine ⟨rfl, _, blk_put (blk_far h3'.out ne _) 0 _ rfl, blk_far (blk_put h4'.out 0 _ rfl) ne.symm _, own_heap (w := w1) ?_ ?_, q3, q4, (hb1.out.setCell hb4 _).setCell hb3 _⟩
    · have e : strs (xs ++ [s.extract 0 n]) = strs xs ++ [.string (s.extract 0 n)] := by simp [strs]
      rw [e]; exact ho1.out
    · intro g hg
      have g3 : g ≠ B3 := fun e => q3 (by rw [hg, e])
      have g4 : g ≠ B4 := fun e => q4 (by rw [hg, e])
      exact (Below.heap_setCell _ ⟨B3, 0, none⟩ _ g g3).trans (Below.heap_setCell _ ⟨B4, 0, none⟩ _ g g4)
def joinI (s : Int) : List (List Int) → List Int
  | [] => []
  | x :: r => x ++ (r.map (s :: ·)).flatten
theorem joinI_snoc (s : Int) (P : List (List Int)) (x : List Int) (h : P ≠ []) : joinI s (P ++ [x]) = joinI s P ++ s :: x := by
  cases P with
  | nil => exact absurd rfl h
  | cons y r => simp [joinI]
theorem join_is (s : Int) (P : List (List Int)) : Lib.join ((P.map strOfNums).map (·.data.toList)) (Lib.bytesOf [s]) = Lib.bytesOf (joinI s P) := by
  cases P with
  | nil => rfl
  | cons x r =>
    rw [List.map_cons, List.map_cons, Lib.join_cons]
    have t : ∀ r : List (List Int), Lib.joinTail (Lib.bytesOf [s]) ((r.map strOfNums).map (·.data.toList)) = Lib.bytesOf ((r.map (s :: ·)).flatten) := by
      intro r
      induction r with
      | nil => rfl
      | cons y r ih =>
        simp only [List.map_cons, List.flatten_cons]
        rw [show Lib.joinTail (Lib.bytesOf [s]) ((strOfNums y).data.toList :: List.map (fun x => x.data.toList) (List.map strOfNums r)) = Lib.bytesOf [s] ++ (strOfNums y).data.toList ++ Lib.joinTail (Lib.bytesOf [s]) (List.map (fun x => x.data.toList) (List.map strOfNums r)) from rfl, ih]
        simp [Lib.bytesOf, strOfNums_data]
    rw [t]
    simp [joinI, Lib.bytesOf, strOfNums_data]
theorem grp_first (A : List Int) (h : 1 ≤ A.length) : grp 95 A = A.take ((A.length - 1) % 3 + 1) ++ (if A.drop ((A.length - 1) % 3 + 1) = [] then [] else 95 :: grp 95 (A.drop ((A.length - 1) % 3 + 1))) := by
  generalize hk : (A.length - 1) % 3 + 1 = k
  have k3 : k ≤ 3 := by omega
  have kl : k ≤ A.length := by omega
  by_cases c : A.drop k = []
  · rw [if_pos c, List.append_nil]
    have : A.length ≤ k := List.drop_eq_nil_iff.1 c
    rw [List.take_of_length_le this]
    exact grp_small 95 A (by omega)
  · rw [if_neg c]
    have l1 : (A.take k).length = k := by rw [List.length_take]; omega
    have l2 : (A.drop k).length = A.length - k := by rw [List.length_drop]
    have ne : A.drop k ≠ [] := c
    have pos : 0 < (A.drop k).length := List.length_pos_iff.2 ne
    have g := grp_cut 95 (A.take k) (A.drop k) ((A.length - k) / 3 - 1) (by omega) (by omega) (by omega)
    rw [List.take_append_drop] at g
    exact g
theorem ext_take (L : List Int) (k : Nat) : (strOfNums L).extract 0 k = strOfNums (L.take k) := by rw [str_extract, List.drop_zero]
theorem ext_drop (L : List Int) (k : Nat) : (strOfNums L).extract k (strOfNums L).size = strOfNums (L.drop k) := by
  rw [str_extract, strOfNums_size, List.take_of_length_le (Nat.le_refl _)]
theorem grp_len2 : ∀ (l : List Int), (grp 95 l).length ≤ 2 * l.length
  | [] => by simp [grp]
  | x :: l => by
    have ih := grp_len2 l
    unfold grp
    by_cases c : l.length % 3 = 0 ∧ l ≠ []
    · rw [if_pos c]; simp only [List.length_cons]; omega
    · rw [if_neg c]; simp only [List.length_cons]; omega
theorem own_some {w : World} {base n : Nat} {v : Value} {xs : List Value} (h : w.ownsRow base 9 1 v n xs) (hn : 0 < n) : ∃ g c, v = .slice (some ⟨g, 0, none⟩) n c ∧ n ≤ c ∧ g < w.heap.size := by
  rcases h.2 with ⟨rfl, e⟩ | ⟨g, cap, cur, rfl, _, hh, hc, _⟩
  · omega
  · exact ⟨g, cap, rfl, hc, blk_lt hh⟩
set_option maxHeartbeats 4000000 in
set_option maxRecDepth 100000 in
theorem decimal_Grouped.calls (a0_0 a0_1 : Int) (r : ByteArray) (w : World) (h : decimal_Grouped.f a0_0 a0_1 = some r) :
    Calls Try.prog 79 #[.agg #[.int .u64 a0_0, .int .u64 a0_1]] w fun e w' => e = .returned (.string r) ∧ Below w.heap.size w w' := by
  have hu : U64 a0_0 ∧ U64 a0_1 := by
    unfold decimal_Grouped.f at h
    split at h
    · assumption
    · cases h
  rw [grouped_num _ _ hu.1 hu.2] at h
  obtain rfl := Option.some.inj h
  clear h
  have D1 := dec_facts (val a0_0 a0_1) (val_range _ _ hu.1 hu.2).1 (val_range _ _ hu.1 hu.2).2
  have hT := text_num a0_0 a0_1 hu.1 hu.2
  have la : (asc (dec (val a0_0 a0_1))).length = (dec (val a0_0 a0_1)).length := by simp [asc]
  generalize asc (dec (val a0_0 a0_1)) = A at *
  obtain ⟨_, _, l0, l1⟩ := D1
  rw [← la] at l0 l1
  clear la
  have sA : (strOfNums A).size = A.length := strOfNums_size A
  obtain ⟨hd, hhd⟩ : ∃ hd : Nat, (A.length - 1) % 3 + 1 = hd := ⟨_, rfl⟩
  have e1 : Int.tmod ((A.length : Int) - 1) 3 + 1 = (hd : Int) := by rw [Int.tmod_eq_emod_of_nonneg (by omega)]; omega
  go_enter Try.func79, Try.ntmps79
  go_wp2_with (first
    | (go_at_call 78; (with_reducible refine (decimal_Text.calls a0_0 a0_1 _ _ hT).mono ?_); rintro e w' ⟨rfl, hb⟩))
  have HB0 := Aside0.mk (below_step (below_alloc (Below.refl _ _) _) hb)
  have lt0 : w.heap.size + 1 ≤ w'.heap.size := by have := hb.size; rw [World.size_alloc] at this; exact this
  have hdl : hd ≤ A.length := by omega
  have e2 : ((A.length : Int) - 1) % 3 + 1 = (hd : Int) := by omega
  rw [e2]
  have k4 := blk_new (w'.alloc (.cells #[.string (strOfNums A)] 9)) (.cells #[.slice none 0 0] 73)
  rw [World.size_alloc] at k4
  refine (cut_calls hd w.heap.size w'.heap.size (w'.heap.size + 1) (strOfNums A) (.slice none 0 0) [] _ (blk_alloc (blk_new _ _) _) k4 (World.ownsRow_nil ..) (by omega) (by omega) (by simp [Value.ownBlock]) (by simp [Value.ownBlock]) (by omega) (by omega) (by simp)).mono ?_
  rintro e w2 ⟨rfl, v2, k3, k4, ho, n3, n4, hb2⟩
  have HB2 := Aside0.mk (Below.trans (below_alloc (below_alloc HB0.out _) _) hb2)
  rw [ext_take] at ho
  rw [ext_drop] at k3
  obtain ⟨B3, hB3⟩ : ∃ B, w'.heap.size = B := ⟨_, rfl⟩
  rw [hB3] at k3 k4 n3 n4 lt0
  have g1 := grp_first A l0
  rw [hhd] at g1
  replace g1 := Aside0.mk g1
  replace ho := Aside0.mk ho
  replace k3 := Aside0.mk k3
  replace k4 := Aside0.mk k4
  clear hb hb2 HB0 e1 e2 hT
  go_wp2
  go_loopg [] 20 (fun g W => ∃ (P : List (List Int)) (S : List Int) (v : Value) (m : Nat), Aside0 (S.length = 3 * m ∧ m ≤ g ∧ P ≠ [] ∧ P.length + m ≤ 30) ∧ Aside0 (grp 95 A = joinI 95 P ++ (if S = [] then [] else 95 :: grp 95 S)) ∧ Aside0 (W.ownsRow w.heap.size 9 1 v P.length (strs (P.map strOfNums))) ∧ Aside0 (v.ownBlock ≠ some B3 ∧ v.ownBlock ≠ some (B3 + 1)) ∧ Aside0 (W.heap[B3]? = some (.cells #[.string (strOfNums S)] 9 (0, 0))) ∧ Aside0 (W.heap[B3 + 1]? = some (.cells #[v] 73 (0, 0))) ∧ Aside0 (Below w.heap.size w W))
  case atStart =>
    refine ⟨[A.take hd], A.drop hd, v2, (A.length - hd) / 3, ⟨?_, ?_, by simp, ?_⟩, ⟨?_⟩, ho, ⟨n3, n4⟩, k3, k4, HB2⟩
    · rw [List.length_drop]; omega
    · omega
    · simp only [List.length_singleton]; omega
    · rw [g1.out]; simp [joinI]
  case round =>
    clear g1 ho k3 k4 HB2 n3 n4
    obtain ⟨P, S, v, m, F, G, HO, N, K3, K4, HB⟩ := hrel
    have c3 : wr.cell? ⟨B3, 0, none⟩ = some (.string (strOfNums S)) := (blk_cell K3.out 0).trans rfl
    have c4 : wr.cell? ⟨B3 + 1, 0, none⟩ = some v := (blk_cell K4.out 0).trans rfl
    have pl : 0 < P.length := List.length_pos_iff.2 F.out.2.2.1
    have sS : (strOfNums S).size = S.length := strOfNums_size S
    by_cases c : S = []
    · subst c
      have t0 : (strOfNums []).toList.isEmpty = true := by rw [Lib.strOfNums_toList]; rfl
      have hj := G.out
      rw [if_pos rfl, List.append_nil] at hj
      obtain ⟨gb, cap, rfl, hcap, hlt⟩ := own_some HO.out pl
      have J := sh_strings_Join gb 0 cap (P.map strOfNums) ⟨#[95]⟩ wr (fun j x hx => by
        have hjl : j < P.length := by
          have := (List.getElem?_eq_some_iff.1 hx).1
          rw [List.length_map] at this
          exact this
        rw [Nat.zero_add, HO.out.cellAt j (by omega)]
        unfold strs
        rw [List.getElem?_map, hx]
        rfl) hlt (by rw [List.length_map]; have := F.out.2.2.2; omega) (by rw [List.length_map]; exact hcap) (by
        have e := join_is 95 P
        have e' : Lib.bytesOf [95] = (⟨#[95]⟩ : ByteArray).data.toList := rfl
        rw [e'] at e
        rw [e, Lib.bytesOf_length, ← hj]
        have := grp_len2 A
        omega)
      have e := join_is 95 P
      have e' : Lib.bytesOf [95] = (⟨#[95]⟩ : ByteArray).data.toList := rfl
      rw [e'] at e
      rw [e, ← hj, List.length_map] at J
      go_wp2_with (first
        | (go_at_call 95; (with_reducible refine J.mono ?_); rintro e w5 ⟨rfl, hb5⟩))
      go_ret
      exact ⟨by rw [hj]; rfl, below_step HB.out hb5⟩
    · have t0 : (strOfNums S).toList.isEmpty = false := by
        rw [Lib.strOfNums_toList]
        cases S with
        | nil => exact absurd rfl c
        | cons x t => rfl
      obtain ⟨gi, rfl⟩ : ∃ g, gk = g + 1 := ⟨gk - 1, by have := F.out; have := List.length_pos_iff.2 c; omega⟩
      have hm : 1 ≤ m := by have := F.out; have := List.length_pos_iff.2 c; omega
      have hS3 : 3 ≤ (strOfNums S).size := by rw [sS]; have := F.out; omega
      have CC := cut_calls 3 w.heap.size B3 (B3 + 1) (strOfNums S) v (P.map strOfNums) wr K3.out K4.out (by rw [List.length_map]; exact HO.out) (by omega) (by omega) N.out.1 N.out.2 (by omega) hS3 (by rw [List.length_map]; have := F.out.2.2.2; omega)
      rw [List.length_map, ext_take, ext_drop] at CC
      change Calls Try.prog 102 #[.int .i64 3, .pointer (some ⟨B3 + 1, 0, none⟩), .pointer (some ⟨B3, 0, none⟩)] _ _ at CC
      go_wp2_with (first
        | (go_at_call 102; (with_reducible refine CC.mono ?_); rintro e w5 ⟨rfl, v5, k3, k4, ho, n3, n4, hb5⟩))
      go_roundg gi
      case measure => omega
      case rel =>
        have gf := grp_first S (by have := List.length_pos_iff.2 c; omega)
        have h3 : (S.length - 1) % 3 + 1 = 3 := by have := F.out.1; omega
        rw [h3] at gf
        refine ⟨P ++ [S.take 3], S.drop 3, v5, m - 1, ⟨?_, ?_, by simp, ?_⟩, ⟨?_⟩, ⟨?_⟩, ⟨n3, n4⟩, ⟨k3⟩, ⟨k4⟩, ⟨HB.out.trans hb5⟩⟩
        · rw [List.length_drop]; have := F.out.1; omega
        · have := F.out.2.1; omega
        · rw [List.length_append, List.length_singleton]; have := F.out.2.2.2; omega
        · rw [G.out, if_neg c, joinI_snoc 95 P _ F.out.2.2.1, gf]
          simp
        · rw [List.length_append, List.length_singleton, List.map_append]; exact ho
end Go.Proofs.Ytpkjpiphjdpegaa.P
namespace Go.Proofs.Ytpkjpiphjdpegaa.P
open Go.RowKit Go.Proofs.YtpkjpiphjdpegaaW.PrintWords Go.Proofs.YtpkjpiphjdpegaaW.PrintLast Go.Proofs.YtpkjpiphjdpegaaW.PrintMore
attribute [local go_sem] max2_int min2_int max_two min_two max_three min_three max_four min_four
set_option linter.unusedVariables false
set_option linter.unusedSimpArgs false
attribute [local go_sem high] eqA25
def paymasterlaw02_refused.f (a0 : ByteArray) (a1 : Int) : Option (Bool) := (decimal_Parse.f a0).bind fun bt1698 => (if bt1698.2.2 = a1 then (some (bt1698.1 == 0 && (bt1698.2.1 == 0))) else (none))
set_option maxHeartbeats 8000000 in
set_option maxRecDepth 100000 in
theorem paymasterlaw02_refused.calls (a0 : ByteArray) (a1 : Int) (r : Bool) (w : World) (h : paymasterlaw02_refused.f a0 a1 = some r) :
    Calls Try.prog 103 #[.string a0, .int .i64 a1] w fun e w' => e = .returned (.bool r) ∧ Below w.heap.size w w' := by
  have hu25 := Try.underlying25
  have HB := Aside0.mk (Below.refl w.heap.size w)
  have H : ((decimal_Parse.f a0).bind fun bt1698 => (if bt1698.2.2 = a1 then (some (bt1698.1 == 0 && (bt1698.2.1 == 0))) else (none))) = some r := h
  clear h
  replace H := Option.bind_eq_some_iff.mp H
  obtain ⟨⟨t1698, t1699, t1700⟩, A30, H⟩ := H
  replace H : (if t1700 = a1 then (some (t1698 == 0 && (t1699 == 0))) else (none)) = some r := H
  have A3 := Aside0.mk A30
  clear A30
  by_cases c4 : t1700 = a1
  · rw [if_pos c4] at H
    have c4b0 : (t1700 == a1) = true := beq_iff_eq.mpr c4
    have c4b1 : (t1700 != a1) = false := bne_eq_false_iff_eq.mpr c4
    clear c4
    obtain rfl := Option.some.inj H
    go_enter Try.func103, Try.ntmps103
    go_wp2_with (first | ((with_reducible refine gate_callee (f := 76) rfl ?_); refine goesL_ (some 9) rfl rfl Try.func76 (by kernel_rfl) rfl #[.string a0] rfl (by (try simp only [List.map_toArray, List.map_cons, List.map_nil]); first | done | rfl | (simp only [List.length_drop, List.length_take]; rfl)) ?_; (with_reducible refine (decimal_Parse.calls a0 t1698 t1699 t1700 _ A3.out).mono ?_); rintro e w5 ⟨rfl, hb⟩; refine ⟨_, rfl, ?_⟩; have n0_ := Aside0.mk (below_step (by repeat (first | (with_reducible first | exact HB.out | apply below_alloc | apply pw_below_drewN | apply below_drew1) | exact HB.out)) hb); clear HB; have HB := n0_; clear n0_; (try clear hb); (try clear hb2); (try clear hk); (try clear hi)) | ((with_reducible refine gate_dst (N := 5) rfl ?_); refine box_event ?hg (N := 5) ?hd (cs := #[.int .u64 0, .int .u64 0]) (t := 25) ?hr ?_; (case hd => rfl); (case hg => rfl); (case hr => first | (go_simp; done) | (go_simp; rfl)); intro gb1701 hg w6 hbox hb; have n0_ := Aside0.mk (below_step (by repeat (first | (with_reducible first | exact HB.out | apply below_alloc | apply pw_below_drewN | apply below_drew1) | exact HB.out)) hb); have n1_ := Aside0.mk (hbox); have n2_ := Aside0.mk ((by rw [hg]; exact (below_size (by repeat (first | (with_reducible first | exact HB.out | apply below_alloc | apply pw_below_drewN | apply below_drew1) | exact HB.out))) : w.heap.size ≤ gb1701)); have n3_ := Aside0.mk ((by rw [hg]; exact (below_size (by repeat (first | (with_reducible first | exact HB.out | apply below_alloc | apply pw_below_drewN | apply below_drew1) | exact HB.out))) : w.heap.size ≤ gb1701)); clear HB; have HB := n0_; have BK1701 := n1_; have GW1701 := n2_; have GE1701 := n3_; clear n0_ n1_ n2_ n3_; clear hb hbox hg; have hcz7_0 : w6.cell? ⟨gb1701, 0, none⟩ = some (.int .u64 0) := (blk_cell BK1701.out 0).trans rfl; have hcz7_1 : w6.cell? ⟨gb1701, 1, none⟩ = some (.int .u64 0) := (blk_cell BK1701.out 1).trans rfl; have hfz7_0 := blk_frozen BK1701.out 0; have hfz7_1 := blk_frozen BK1701.out 1))
    go_ret
    exact ⟨by first | rfl | (simp [errW_none, errW_some] <;> rfl) | (simp [*, errW_none, errW_some] <;> rfl), by repeat (first | (with_reducible first | exact HB.out | apply below_alloc | apply pw_below_drewN | apply below_drew1 | refine below_set ?_ GE1701.out) | exact HB.out)⟩
  · rw [if_neg c4] at H
    exact absurd H (by simp)
end Go.Proofs.Ytpkjpiphjdpegaa.P
namespace Go.Proofs.Ytpkjpiphjdpegaa.P
open Go.RowKit Go.Proofs.YtpkjpiphjdpegaaW.PrintWords Go.Proofs.YtpkjpiphjdpegaaW.PrintLast Go.Proofs.YtpkjpiphjdpegaaW.PrintMore
attribute [local go_sem] max2_int min2_int max_two min_two max_three min_three max_four min_four
set_option linter.unusedVariables false
set_option linter.unusedSimpArgs false
attribute [local go_sem high] eqA25
def paymasterlaw02_awake.f (k : Nat)  : Option (Bool) := (decimal_Parse.f (⟨#[51, 52, 48, 50, 56, 50, 51, 54, 54, 57, 50, 48, 57, 51, 56, 52, 54, 51, 52, 54, 51, 51, 55, 52, 54, 48, 55, 52, 51, 49, 55, 54, 56, 50, 49, 49, 52, 53, 53]⟩ : ByteArray)).bind fun bt1702 => ((decimal_Ten.f k 38).bind fun bt1706 => ((decimal_Ten.f k 39).bind fun bt1710 => (if bt1702.2.2 = 0 then ((u128_Most.f).bind fun bt1714 => (if (bt1702.1 == bt1714.1 && (bt1702.2.1 == bt1714.2)) = true then ((decimal_Text.f 0 0).bind fun t1716 => (if t1716.toList = ([48] : List UInt8) then ((decimal_Text.f bt1702.1 bt1702.2.1).bind fun t1717 => (if t1717.toList = ([51, 52, 48, 50, 56, 50, 51, 54, 54, 57, 50, 48, 57, 51, 56, 52, 54, 51, 52, 54, 51, 51, 55, 52, 54, 48, 55, 52, 51, 49, 55, 54, 56, 50, 49, 49, 52, 53, 53] : List UInt8) then ((decimal_Digits.f bt1702.1 bt1702.2.1).bind fun t1718 => (if t1718 = 39 then ((paymasterlaw02_refused.f (⟨#[51, 52, 48, 50, 56, 50, 51, 54, 54, 57, 50, 48, 57, 51, 56, 52, 54, 51, 52, 54, 51, 51, 55, 52, 54, 48, 55, 52, 51, 49, 55, 54, 56, 50, 49, 49, 52, 53, 54]⟩ : ByteArray) 10).bind fun t1719 => (if t1719 = true then ((paymasterlaw02_refused.f (⟨#[48, 48, 55]⟩ : ByteArray) 20).bind fun t1720 => (if t1720 = true then ((paymasterlaw02_refused.f (⟨#[45, 49]⟩ : ByteArray) 20).bind fun t1721 => (if t1721 = true then ((paymasterlaw02_refused.f (⟨#[49, 32]⟩ : ByteArray) 20).bind fun t1722 => (if t1722 = true then ((paymasterlaw02_refused.f (⟨#[]⟩ : ByteArray) 20).bind fun t1723 => (if t1723 = true then ((u128_Of.f 1234567).bind fun bt1724 => ((decimal_Grouped.f bt1724.1 bt1724.2).bind fun t1726 => (if t1726.toList = ([49, 95, 50, 51, 52, 95, 53, 54, 55] : List UInt8) then (if bt1706.2.2 = 0 then ((decimal_Digits.f bt1706.1 bt1706.2.1).bind fun t1727 => (if t1727 = 39 then ((decimal_Digit.f bt1706.1 bt1706.2.1 38).bind fun t1728 => (if t1728 = 1 then ((decimal_Digit.f bt1706.1 bt1706.2.1 37).bind fun t1729 => (if t1729 = 0 then (some (bt1710.2.2 == 10)) else (none))) else (none))) else (none))) else (none)) else (none)))) else (none))) else (none))) else (none))) else (none))) else (none))) else (none))) else (none))) else (none))) else (none))) else (none))))
def paymasterlaw02_awake.T4 : Bool × List (List Nat × List Nat) := (true, [([], []), ([0], [0]), ([1], [1]), ([2], [2]), ([2, 2], [2]), ([3, 4, 2], [2, 3, 4]), ([2, 5], [2, 5]), ([6, 4], [6]), ([7], [7]), ([8, 7, 7], [7, 8]), ([9, 7], [7, 9]), ([7, 10], [7, 10]), ([11, 9], [11]), ([12], [12]), ([13, 12, 12], [12, 13]), ([14, 12], [12, 14]), ([12, 15], [12, 15]), ([16, 14], [16]), ([17], [17]), ([18, 17, 17], [17, 18]), ([19, 17], [17, 19]), ([17, 20], [17, 20]), ([21, 19], [21]), ([22, 22], [22]), ([22, 23], [22, 23]), ([24, 23], [24]), ([25, 25], [25]), ([25, 26], [25, 26]), ([27, 26], [27]), ([28, 28], [28]), ([28, 29], [28, 29]), ([30, 29], [30]), ([31, 31], [31]), ([31, 32], [31, 32]), ([33, 32], [33]), ([34, 34], [34]), ([34, 35], [34, 35]), ([36, 35], [36]), ([37, 37], [37]), ([38, 38, 37], [37, 38]), ([39, 37], [37, 39]), ([37, 40], [37, 40]), ([41, 39], [41]), ([42], [42]), ([43, 42], [42, 43]), ([42, 44], [42, 44]), ([45, 42], [45]), ([46], [46]), ([47, 46, 46], [46, 47]), ([48, 46], [46, 48]), ([46, 49], [46, 49]), ([50, 48], [50]), ([51], [51]), ([52, 51, 51], [51, 52]), ([53, 51], [51, 53]), ([51, 54], [51, 54]), ([55, 53], [55]), ([56], [56]), ([57, 56, 56], [56, 57]), ([58, 56], [56, 58]), ([56, 59], [56, 59]), ([60, 58], [60]), ([61], [61]), ([62, 61], [61, 62]), ([61, 63], [61, 63]), ([64, 61, 0, 1, 2, 3, 4, 5, 6, 7, 8, 9, 10, 11, 12, 13, 14, 15, 16, 17, 18, 19, 20, 21, 22, 23, 24, 25, 26, 27, 28, 29, 30, 31, 32, 33, 34, 35, 36, 37, 38, 39, 40, 41, 42, 43, 44, 45, 46, 47, 48, 49, 50, 51, 52, 53, 54, 55, 56, 57, 58, 59, 60, 61, 62, 63, 64], [64])])
def paymasterlaw02_awake.B4 : List Nat := [0, 1, 3, 7, 7, 31, 63, 127, 255, 511, 1023, 2047, 4095, 8191, 16383, 32767, 65535, 131071, 262143, 524287, 1048575, 2097151, 4194303, 8388607, 16777215, 33554431, 67108863, 134217727, 268435455, 536870911, 1073741823, 2147483647, 4294967295, 8589934591, 17179869183, 34359738367, 68719476735, 137438953471, 274877906943, 549755813887, 1099511627775, 2199023255551, 4398046511103, 8796093022207, 17592186044415, 35184372088831, 70368744177663, 140737488355327, 281474976710655, 562949953421311, 1125899906842623, 2251799813685247, 4503599627370495, 9007199254740991, 18014398509481983, 36028797018963967, 72057594037927935, 144115188075855871, 288230376151711743, 576460752303423487, 1152921504606846975, 2305843009213693951, 4611686018427387903, 9223372036854775807, 18446744073709551615, 36893488147419103231]
theorem paymasterlaw02_awake.tab4 : rtab .any (opsOf Try.f81 4) = paymasterlaw02_awake.T4 := by kernel_rfl
theorem paymasterlaw02_awake.bits4 : waitsOk paymasterlaw02_awake.T4.2 paymasterlaw02_awake.B4 = true := by kernel_rfl
set_option maxHeartbeats 8000000 in
set_option maxRecDepth 100000 in
theorem paymasterlaw02_awake.calls (k : Nat)  (r : Bool) (w : World) (h : paymasterlaw02_awake.f k  = some r) :
    Calls Try.prog 81 #[] w fun e w' => e = .returned (.bool r) ∧ Below w.heap.size w w' := by
  have hu25 := Try.underlying25
  have HB := Aside0.mk (Below.refl w.heap.size w)
  have H : ((decimal_Parse.f (⟨#[51, 52, 48, 50, 56, 50, 51, 54, 54, 57, 50, 48, 57, 51, 56, 52, 54, 51, 52, 54, 51, 51, 55, 52, 54, 48, 55, 52, 51, 49, 55, 54, 56, 50, 49, 49, 52, 53, 53]⟩ : ByteArray)).bind fun bt1702 => ((decimal_Ten.f k 38).bind fun bt1706 => ((decimal_Ten.f k 39).bind fun bt1710 => (if bt1702.2.2 = 0 then ((u128_Most.f).bind fun bt1714 => (if (bt1702.1 == bt1714.1 && (bt1702.2.1 == bt1714.2)) = true then ((decimal_Text.f 0 0).bind fun t1716 => (if t1716.toList = ([48] : List UInt8) then ((decimal_Text.f bt1702.1 bt1702.2.1).bind fun t1717 => (if t1717.toList = ([51, 52, 48, 50, 56, 50, 51, 54, 54, 57, 50, 48, 57, 51, 56, 52, 54, 51, 52, 54, 51, 51, 55, 52, 54, 48, 55, 52, 51, 49, 55, 54, 56, 50, 49, 49, 52, 53, 53] : List UInt8) then ((decimal_Digits.f bt1702.1 bt1702.2.1).bind fun t1718 => (if t1718 = 39 then ((paymasterlaw02_refused.f (⟨#[51, 52, 48, 50, 56, 50, 51, 54, 54, 57, 50, 48, 57, 51, 56, 52, 54, 51, 52, 54, 51, 51, 55, 52, 54, 48, 55, 52, 51, 49, 55, 54, 56, 50, 49, 49, 52, 53, 54]⟩ : ByteArray) 10).bind fun t1719 => (if t1719 = true then ((paymasterlaw02_refused.f (⟨#[48, 48, 55]⟩ : ByteArray) 20).bind fun t1720 => (if t1720 = true then ((paymasterlaw02_refused.f (⟨#[45, 49]⟩ : ByteArray) 20).bind fun t1721 => (if t1721 = true then ((paymasterlaw02_refused.f (⟨#[49, 32]⟩ : ByteArray) 20).bind fun t1722 => (if t1722 = true then ((paymasterlaw02_refused.f (⟨#[]⟩ : ByteArray) 20).bind fun t1723 => (if t1723 = true then ((u128_Of.f 1234567).bind fun bt1724 => ((decimal_Grouped.f bt1724.1 bt1724.2).bind fun t1726 => (if t1726.toList = ([49, 95, 50, 51, 52, 95, 53, 54, 55] : List UInt8) then (if bt1706.2.2 = 0 then ((decimal_Digits.f bt1706.1 bt1706.2.1).bind fun t1727 => (if t1727 = 39 then ((decimal_Digit.f bt1706.1 bt1706.2.1 38).bind fun t1728 => (if t1728 = 1 then ((decimal_Digit.f bt1706.1 bt1706.2.1 37).bind fun t1729 => (if t1729 = 0 then (some (bt1710.2.2 == 10)) else (none))) else (none))) else (none))) else (none)) else (none)))) else (none))) else (none))) else (none))) else (none))) else (none))) else (none))) else (none))) else (none))) else (none))) else (none))))) = some r := h
  clear h
  replace H := Option.bind_eq_some_iff.mp H
  obtain ⟨⟨t1702, t1703, t1704⟩, A10, H⟩ := H
  replace H : ((decimal_Ten.f k 38).bind fun bt1706 => ((decimal_Ten.f k 39).bind fun bt1710 => (if t1704 = 0 then ((u128_Most.f).bind fun bt1714 => (if (t1702 == bt1714.1 && (t1703 == bt1714.2)) = true then ((decimal_Text.f 0 0).bind fun t1716 => (if t1716.toList = ([48] : List UInt8) then ((decimal_Text.f t1702 t1703).bind fun t1717 => (if t1717.toList = ([51, 52, 48, 50, 56, 50, 51, 54, 54, 57, 50, 48, 57, 51, 56, 52, 54, 51, 52, 54, 51, 51, 55, 52, 54, 48, 55, 52, 51, 49, 55, 54, 56, 50, 49, 49, 52, 53, 53] : List UInt8) then ((decimal_Digits.f t1702 t1703).bind fun t1718 => (if t1718 = 39 then ((paymasterlaw02_refused.f (⟨#[51, 52, 48, 50, 56, 50, 51, 54, 54, 57, 50, 48, 57, 51, 56, 52, 54, 51, 52, 54, 51, 51, 55, 52, 54, 48, 55, 52, 51, 49, 55, 54, 56, 50, 49, 49, 52, 53, 54]⟩ : ByteArray) 10).bind fun t1719 => (if t1719 = true then ((paymasterlaw02_refused.f (⟨#[48, 48, 55]⟩ : ByteArray) 20).bind fun t1720 => (if t1720 = true then ((paymasterlaw02_refused.f (⟨#[45, 49]⟩ : ByteArray) 20).bind fun t1721 => (if t1721 = true then ((paymasterlaw02_refused.f (⟨#[49, 32]⟩ : ByteArray) 20).bind fun t1722 => (if t1722 = true then ((paymasterlaw02_refused.f (⟨#[]⟩ : ByteArray) 20).bind fun t1723 => (if t1723 = true then ((u128_Of.f 1234567).bind fun bt1724 => ((decimal_Grouped.f bt1724.1 bt1724.2).bind fun t1726 => (if t1726.toList = ([49, 95, 50, 51, 52, 95, 53, 54, 55] : List UInt8) then (if bt1706.2.2 = 0 then ((decimal_Digits.f bt1706.1 bt1706.2.1).bind fun t1727 => (if t1727 = 39 then ((decimal_Digit.f bt1706.1 bt1706.2.1 38).bind fun t1728 => (if t1728 = 1 then ((decimal_Digit.f bt1706.1 bt1706.2.1 37).bind fun t1729 => (if t1729 = 0 then (some (bt1710.2.2 == 10)) else (none))) else (none))) else (none))) else (none)) else (none)))) else (none))) else (none))) else (none))) else (none))) else (none))) else (none))) else (none))) else (none))) else (none))) else (none)))) = some r := H
  have A1 := Aside0.mk A10
  clear A10
  replace H := Option.bind_eq_some_iff.mp H
  obtain ⟨⟨t1706, t1707, t1708⟩, A20, H⟩ := H
  replace H : ((decimal_Ten.f k 39).bind fun bt1710 => (if t1704 = 0 then ((u128_Most.f).bind fun bt1714 => (if (t1702 == bt1714.1 && (t1703 == bt1714.2)) = true then ((decimal_Text.f 0 0).bind fun t1716 => (if t1716.toList = ([48] : List UInt8) then ((decimal_Text.f t1702 t1703).bind fun t1717 => (if t1717.toList = ([51, 52, 48, 50, 56, 50, 51, 54, 54, 57, 50, 48, 57, 51, 56, 52, 54, 51, 52, 54, 51, 51, 55, 52, 54, 48, 55, 52, 51, 49, 55, 54, 56, 50, 49, 49, 52, 53, 53] : List UInt8) then ((decimal_Digits.f t1702 t1703).bind fun t1718 => (if t1718 = 39 then ((paymasterlaw02_refused.f (⟨#[51, 52, 48, 50, 56, 50, 51, 54, 54, 57, 50, 48, 57, 51, 56, 52, 54, 51, 52, 54, 51, 51, 55, 52, 54, 48, 55, 52, 51, 49, 55, 54, 56, 50, 49, 49, 52, 53, 54]⟩ : ByteArray) 10).bind fun t1719 => (if t1719 = true then ((paymasterlaw02_refused.f (⟨#[48, 48, 55]⟩ : ByteArray) 20).bind fun t1720 => (if t1720 = true then ((paymasterlaw02_refused.f (⟨#[45, 49]⟩ : ByteArray) 20).bind fun t1721 => (if t1721 = true then ((paymasterlaw02_refused.f (⟨#[49, 32]⟩ : ByteArray) 20).bind fun t1722 => (if t1722 = true then ((paymasterlaw02_refused.f (⟨#[]⟩ : ByteArray) 20).bind fun t1723 => (if t1723 = true then ((u128_Of.f 1234567).bind fun bt1724 => ((decimal_Grouped.f bt1724.1 bt1724.2).bind fun t1726 => (if t1726.toList = ([49, 95, 50, 51, 52, 95, 53, 54, 55] : List UInt8) then (if t1708 = 0 then ((decimal_Digits.f t1706 t1707).bind fun t1727 => (if t1727 = 39 then ((decimal_Digit.f t1706 t1707 38).bind fun t1728 => (if t1728 = 1 then ((decimal_Digit.f t1706 t1707 37).bind fun t1729 => (if t1729 = 0 then (some (bt1710.2.2 == 10)) else (none))) else (none))) else (none))) else (none)) else (none)))) else (none))) else (none))) else (none))) else (none))) else (none))) else (none))) else (none))) else (none))) else (none))) else (none))) = some r := H
  have A2 := Aside0.mk A20
  clear A20
  replace H := Option.bind_eq_some_iff.mp H
  obtain ⟨⟨t1710, t1711, t1712⟩, A30, H⟩ := H
  replace H : (if t1704 = 0 then ((u128_Most.f).bind fun bt1714 => (if (t1702 == bt1714.1 && (t1703 == bt1714.2)) = true then ((decimal_Text.f 0 0).bind fun t1716 => (if t1716.toList = ([48] : List UInt8) then ((decimal_Text.f t1702 t1703).bind fun t1717 => (if t1717.toList = ([51, 52, 48, 50, 56, 50, 51, 54, 54, 57, 50, 48, 57, 51, 56, 52, 54, 51, 52, 54, 51, 51, 55, 52, 54, 48, 55, 52, 51, 49, 55, 54, 56, 50, 49, 49, 52, 53, 53] : List UInt8) then ((decimal_Digits.f t1702 t1703).bind fun t1718 => (if t1718 = 39 then ((paymasterlaw02_refused.f (⟨#[51, 52, 48, 50, 56, 50, 51, 54, 54, 57, 50, 48, 57, 51, 56, 52, 54, 51, 52, 54, 51, 51, 55, 52, 54, 48, 55, 52, 51, 49, 55, 54, 56, 50, 49, 49, 52, 53, 54]⟩ : ByteArray) 10).bind fun t1719 => (if t1719 = true then ((paymasterlaw02_refused.f (⟨#[48, 48, 55]⟩ : ByteArray) 20).bind fun t1720 => (if t1720 = true then ((paymasterlaw02_refused.f (⟨#[45, 49]⟩ : ByteArray) 20).bind fun t1721 => (if t1721 = true then ((paymasterlaw02_refused.f (⟨#[49, 32]⟩ : ByteArray) 20).bind fun t1722 => (if t1722 = true then ((paymasterlaw02_refused.f (⟨#[]⟩ : ByteArray) 20).bind fun t1723 => (if t1723 = true then ((u128_Of.f 1234567).bind fun bt1724 => ((decimal_Grouped.f bt1724.1 bt1724.2).bind fun t1726 => (if t1726.toList = ([49, 95, 50, 51, 52, 95, 53, 54, 55] : List UInt8) then (if t1708 = 0 then ((decimal_Digits.f t1706 t1707).bind fun t1727 => (if t1727 = 39 then ((decimal_Digit.f t1706 t1707 38).bind fun t1728 => (if t1728 = 1 then ((decimal_Digit.f t1706 t1707 37).bind fun t1729 => (if t1729 = 0 then (some (t1712 == 10)) else (none))) else (none))) else (none))) else (none)) else (none)))) else (none))) else (none))) else (none))) else (none))) else (none))) else (none))) else (none))) else (none))) else (none))) else (none)) = some r := H
  have A3 := Aside0.mk A30
  clear A30
  by_cases c4 : t1704 = 0
  · rw [if_pos c4] at H
    have c4b0 : (t1704 == 0) = true := beq_iff_eq.mpr c4
    have c4b1 : (t1704 != 0) = false := bne_eq_false_iff_eq.mpr c4
    clear c4
    replace H := Option.bind_eq_some_iff.mp H
    obtain ⟨⟨t1714, t1715⟩, A50, H⟩ := H
    replace H : (if (t1702 == t1714 && (t1703 == t1715)) = true then ((decimal_Text.f 0 0).bind fun t1716 => (if t1716.toList = ([48] : List UInt8) then ((decimal_Text.f t1702 t1703).bind fun t1717 => (if t1717.toList = ([51, 52, 48, 50, 56, 50, 51, 54, 54, 57, 50, 48, 57, 51, 56, 52, 54, 51, 52, 54, 51, 51, 55, 52, 54, 48, 55, 52, 51, 49, 55, 54, 56, 50, 49, 49, 52, 53, 53] : List UInt8) then ((decimal_Digits.f t1702 t1703).bind fun t1718 => (if t1718 = 39 then ((paymasterlaw02_refused.f (⟨#[51, 52, 48, 50, 56, 50, 51, 54, 54, 57, 50, 48, 57, 51, 56, 52, 54, 51, 52, 54, 51, 51, 55, 52, 54, 48, 55, 52, 51, 49, 55, 54, 56, 50, 49, 49, 52, 53, 54]⟩ : ByteArray) 10).bind fun t1719 => (if t1719 = true then ((paymasterlaw02_refused.f (⟨#[48, 48, 55]⟩ : ByteArray) 20).bind fun t1720 => (if t1720 = true then ((paymasterlaw02_refused.f (⟨#[45, 49]⟩ : ByteArray) 20).bind fun t1721 => (if t1721 = true then ((paymasterlaw02_refused.f (⟨#[49, 32]⟩ : ByteArray) 20).bind fun t1722 => (if t1722 = true then ((paymasterlaw02_refused.f (⟨#[]⟩ : ByteArray) 20).bind fun t1723 => (if t1723 = true then ((u128_Of.f 1234567).bind fun bt1724 => ((decimal_Grouped.f bt1724.1 bt1724.2).bind fun t1726 => (if t1726.toList = ([49, 95, 50, 51, 52, 95, 53, 54, 55] : List UInt8) then (if t1708 = 0 then ((decimal_Digits.f t1706 t1707).bind fun t1727 => (if t1727 = 39 then ((decimal_Digit.f t1706 t1707 38).bind fun t1728 => (if t1728 = 1 then ((decimal_Digit.f t1706 t1707 37).bind fun t1729 => (if t1729 = 0 then (some (t1712 == 10)) else (none))) else (none))) else (none))) else (none)) else (none)))) else (none))) else (none))) else (none))) else (none))) else (none))) else (none))) else (none))) else (none))) else (none)) = some r := H
    have A5 := Aside0.mk A50
    clear A50
    by_cases c6 : (t1702 == t1714 && (t1703 == t1715)) = true
    · rw [if_pos c6] at H
      have c6b0 : (t1702 == t1714 && (t1703 == t1715)) = true := c6
      (try (have c6b1 : decide (t1702 = t1714 && (t1703 == t1715)) = true := by simpa using c6))
      (try (have c6b2 : (t1702 == t1714 && (t1703 == t1715)) = true := by simpa using c6))
      clear c6
      replace H := Option.bind_eq_some_iff.mp H
      obtain ⟨t1716, A70, H⟩ := H
      replace H : (if t1716.toList = ([48] : List UInt8) then ((decimal_Text.f t1702 t1703).bind fun t1717 => (if t1717.toList = ([51, 52, 48, 50, 56, 50, 51, 54, 54, 57, 50, 48, 57, 51, 56, 52, 54, 51, 52, 54, 51, 51, 55, 52, 54, 48, 55, 52, 51, 49, 55, 54, 56, 50, 49, 49, 52, 53, 53] : List UInt8) then ((decimal_Digits.f t1702 t1703).bind fun t1718 => (if t1718 = 39 then ((paymasterlaw02_refused.f (⟨#[51, 52, 48, 50, 56, 50, 51, 54, 54, 57, 50, 48, 57, 51, 56, 52, 54, 51, 52, 54, 51, 51, 55, 52, 54, 48, 55, 52, 51, 49, 55, 54, 56, 50, 49, 49, 52, 53, 54]⟩ : ByteArray) 10).bind fun t1719 => (if t1719 = true then ((paymasterlaw02_refused.f (⟨#[48, 48, 55]⟩ : ByteArray) 20).bind fun t1720 => (if t1720 = true then ((paymasterlaw02_refused.f (⟨#[45, 49]⟩ : ByteArray) 20).bind fun t1721 => (if t1721 = true then ((paymasterlaw02_refused.f (⟨#[49, 32]⟩ : ByteArray) 20).bind fun t1722 => (if t1722 = true then ((paymasterlaw02_refused.f (⟨#[]⟩ : ByteArray) 20).bind fun t1723 => (if t1723 = true then ((u128_Of.f 1234567).bind fun bt1724 => ((decimal_Grouped.f bt1724.1 bt1724.2).bind fun t1726 => (if t1726.toList = ([49, 95, 50, 51, 52, 95, 53, 54, 55] : List UInt8) then (if t1708 = 0 then ((decimal_Digits.f t1706 t1707).bind fun t1727 => (if t1727 = 39 then ((decimal_Digit.f t1706 t1707 38).bind fun t1728 => (if t1728 = 1 then ((decimal_Digit.f t1706 t1707 37).bind fun t1729 => (if t1729 = 0 then (some (t1712 == 10)) else (none))) else (none))) else (none))) else (none)) else (none)))) else (none))) else (none))) else (none))) else (none))) else (none))) else (none))) else (none))) else (none)) = some r := H
      have A7 := Aside0.mk A70
      clear A70
      by_cases c8 : t1716.toList = ([48] : List UInt8)
      · rw [if_pos c8] at H
        have c8b0 : (t1716.toList == ([48] : List UInt8)) = true := beq_iff_eq.mpr c8
        have c8b1 : (t1716.toList != ([48] : List UInt8)) = false := bne_eq_false_iff_eq.mpr c8
        clear c8
        replace H := Option.bind_eq_some_iff.mp H
        obtain ⟨t1717, A90, H⟩ := H
        replace H : (if t1717.toList = ([51, 52, 48, 50, 56, 50, 51, 54, 54, 57, 50, 48, 57, 51, 56, 52, 54, 51, 52, 54, 51, 51, 55, 52, 54, 48, 55, 52, 51, 49, 55, 54, 56, 50, 49, 49, 52, 53, 53] : List UInt8) then ((decimal_Digits.f t1702 t1703).bind fun t1718 => (if t1718 = 39 then ((paymasterlaw02_refused.f (⟨#[51, 52, 48, 50, 56, 50, 51, 54, 54, 57, 50, 48, 57, 51, 56, 52, 54, 51, 52, 54, 51, 51, 55, 52, 54, 48, 55, 52, 51, 49, 55, 54, 56, 50, 49, 49, 52, 53, 54]⟩ : ByteArray) 10).bind fun t1719 => (if t1719 = true then ((paymasterlaw02_refused.f (⟨#[48, 48, 55]⟩ : ByteArray) 20).bind fun t1720 => (if t1720 = true then ((paymasterlaw02_refused.f (⟨#[45, 49]⟩ : ByteArray) 20).bind fun t1721 => (if t1721 = true then ((paymasterlaw02_refused.f (⟨#[49, 32]⟩ : ByteArray) 20).bind fun t1722 => (if t1722 = true then ((paymasterlaw02_refused.f (⟨#[]⟩ : ByteArray) 20).bind fun t1723 => (if t1723 = true then ((u128_Of.f 1234567).bind fun bt1724 => ((decimal_Grouped.f bt1724.1 bt1724.2).bind fun t1726 => (if t1726.toList = ([49, 95, 50, 51, 52, 95, 53, 54, 55] : List UInt8) then (if t1708 = 0 then ((decimal_Digits.f t1706 t1707).bind fun t1727 => (if t1727 = 39 then ((decimal_Digit.f t1706 t1707 38).bind fun t1728 => (if t1728 = 1 then ((decimal_Digit.f t1706 t1707 37).bind fun t1729 => (if t1729 = 0 then (some (t1712 == 10)) else (none))) else (none))) else (none))) else (none)) else (none)))) else (none))) else (none))) else (none))) else (none))) else (none))) else (none))) else (none)) = some r := H
        have A9 := Aside0.mk A90
        clear A90
        by_cases c10 : t1717.toList = ([51, 52, 48, 50, 56, 50, 51, 54, 54, 57, 50, 48, 57, 51, 56, 52, 54, 51, 52, 54, 51, 51, 55, 52, 54, 48, 55, 52, 51, 49, 55, 54, 56, 50, 49, 49, 52, 53, 53] : List UInt8)
        · rw [if_pos c10] at H
          have c10b0 : (t1717.toList == ([51, 52, 48, 50, 56, 50, 51, 54, 54, 57, 50, 48, 57, 51, 56, 52, 54, 51, 52, 54, 51, 51, 55, 52, 54, 48, 55, 52, 51, 49, 55, 54, 56, 50, 49, 49, 52, 53, 53] : List UInt8)) = true := beq_iff_eq.mpr c10
          have c10b1 : (t1717.toList != ([51, 52, 48, 50, 56, 50, 51, 54, 54, 57, 50, 48, 57, 51, 56, 52, 54, 51, 52, 54, 51, 51, 55, 52, 54, 48, 55, 52, 51, 49, 55, 54, 56, 50, 49, 49, 52, 53, 53] : List UInt8)) = false := bne_eq_false_iff_eq.mpr c10
          clear c10
          replace H := Option.bind_eq_some_iff.mp H
          obtain ⟨t1718, A110, H⟩ := H
          replace H : (if t1718 = 39 then ((paymasterlaw02_refused.f (⟨#[51, 52, 48, 50, 56, 50, 51, 54, 54, 57, 50, 48, 57, 51, 56, 52, 54, 51, 52, 54, 51, 51, 55, 52, 54, 48, 55, 52, 51, 49, 55, 54, 56, 50, 49, 49, 52, 53, 54]⟩ : ByteArray) 10).bind fun t1719 => (if t1719 = true then ((paymasterlaw02_refused.f (⟨#[48, 48, 55]⟩ : ByteArray) 20).bind fun t1720 => (if t1720 = true then ((paymasterlaw02_refused.f (⟨#[45, 49]⟩ : ByteArray) 20).bind fun t1721 => (if t1721 = true then ((paymasterlaw02_refused.f (⟨#[49, 32]⟩ : ByteArray) 20).bind fun t1722 => (if t1722 = true then ((paymasterlaw02_refused.f (⟨#[]⟩ : ByteArray) 20).bind fun t1723 => (if t1723 = true then ((u128_Of.f 1234567).bind fun bt1724 => ((decimal_Grouped.f bt1724.1 bt1724.2).bind fun t1726 => (if t1726.toList = ([49, 95, 50, 51, 52, 95, 53, 54, 55] : List UInt8) then (if t1708 = 0 then ((decimal_Digits.f t1706 t1707).bind fun t1727 => (if t1727 = 39 then ((decimal_Digit.f t1706 t1707 38).bind fun t1728 => (if t1728 = 1 then ((decimal_Digit.f t1706 t1707 37).bind fun t1729 => (if t1729 = 0 then (some (t1712 == 10)) else (none))) else (none))) else (none))) else (none)) else (none)))) else (none))) else (none))) else (none))) else (none))) else (none))) else (none)) = some r := H
          have A11 := Aside0.mk A110
          clear A110
          by_cases c12 : t1718 = 39
          · rw [if_pos c12] at H
            have c12b0 : (t1718 == 39) = true := beq_iff_eq.mpr c12
            have c12b1 : (t1718 != 39) = false := bne_eq_false_iff_eq.mpr c12
            clear c12
            replace H := Option.bind_eq_some_iff.mp H
            obtain ⟨t1719, A130, H⟩ := H
            replace H : (if t1719 = true then ((paymasterlaw02_refused.f (⟨#[48, 48, 55]⟩ : ByteArray) 20).bind fun t1720 => (if t1720 = true then ((paymasterlaw02_refused.f (⟨#[45, 49]⟩ : ByteArray) 20).bind fun t1721 => (if t1721 = true then ((paymasterlaw02_refused.f (⟨#[49, 32]⟩ : ByteArray) 20).bind fun t1722 => (if t1722 = true then ((paymasterlaw02_refused.f (⟨#[]⟩ : ByteArray) 20).bind fun t1723 => (if t1723 = true then ((u128_Of.f 1234567).bind fun bt1724 => ((decimal_Grouped.f bt1724.1 bt1724.2).bind fun t1726 => (if t1726.toList = ([49, 95, 50, 51, 52, 95, 53, 54, 55] : List UInt8) then (if t1708 = 0 then ((decimal_Digits.f t1706 t1707).bind fun t1727 => (if t1727 = 39 then ((decimal_Digit.f t1706 t1707 38).bind fun t1728 => (if t1728 = 1 then ((decimal_Digit.f t1706 t1707 37).bind fun t1729 => (if t1729 = 0 then (some (t1712 == 10)) else (none))) else (none))) else (none))) else (none)) else (none)))) else (none))) else (none))) else (none))) else (none))) else (none)) = some r := H
            have A13 := Aside0.mk A130
            clear A130
            by_cases c14 : t1719 = true
            · subst c14
              have H1 : ((paymasterlaw02_refused.f (⟨#[48, 48, 55]⟩ : ByteArray) 20).bind fun t1720 => (if t1720 = true then ((paymasterlaw02_refused.f (⟨#[45, 49]⟩ : ByteArray) 20).bind fun t1721 => (if t1721 = true then ((paymasterlaw02_refused.f (⟨#[49, 32]⟩ : ByteArray) 20).bind fun t1722 => (if t1722 = true then ((paymasterlaw02_refused.f (⟨#[]⟩ : ByteArray) 20).bind fun t1723 => (if t1723 = true then ((u128_Of.f 1234567).bind fun bt1724 => ((decimal_Grouped.f bt1724.1 bt1724.2).bind fun t1726 => (if t1726.toList = ([49, 95, 50, 51, 52, 95, 53, 54, 55] : List UInt8) then (if t1708 = 0 then ((decimal_Digits.f t1706 t1707).bind fun t1727 => (if t1727 = 39 then ((decimal_Digit.f t1706 t1707 38).bind fun t1728 => (if t1728 = 1 then ((decimal_Digit.f t1706 t1707 37).bind fun t1729 => (if t1729 = 0 then (some (t1712 == 10)) else (none))) else (none))) else (none))) else (none)) else (none)))) else (none))) else (none))) else (none))) else (none))) = some r := by rw [if_pos rfl] at H; exact H
              clear H
              have H := H1
              clear H1
              replace H := Option.bind_eq_some_iff.mp H
              obtain ⟨t1720, A150, H⟩ := H
              replace H : (if t1720 = true then ((paymasterlaw02_refused.f (⟨#[45, 49]⟩ : ByteArray) 20).bind fun t1721 => (if t1721 = true then ((paymasterlaw02_refused.f (⟨#[49, 32]⟩ : ByteArray) 20).bind fun t1722 => (if t1722 = true then ((paymasterlaw02_refused.f (⟨#[]⟩ : ByteArray) 20).bind fun t1723 => (if t1723 = true then ((u128_Of.f 1234567).bind fun bt1724 => ((decimal_Grouped.f bt1724.1 bt1724.2).bind fun t1726 => (if t1726.toList = ([49, 95, 50, 51, 52, 95, 53, 54, 55] : List UInt8) then (if t1708 = 0 then ((decimal_Digits.f t1706 t1707).bind fun t1727 => (if t1727 = 39 then ((decimal_Digit.f t1706 t1707 38).bind fun t1728 => (if t1728 = 1 then ((decimal_Digit.f t1706 t1707 37).bind fun t1729 => (if t1729 = 0 then (some (t1712 == 10)) else (none))) else (none))) else (none))) else (none)) else (none)))) else (none))) else (none))) else (none))) else (none)) = some r := H
              have A15 := Aside0.mk A150
              clear A150
              by_cases c16 : t1720 = true
              · subst c16
                have H1 : ((paymasterlaw02_refused.f (⟨#[45, 49]⟩ : ByteArray) 20).bind fun t1721 => (if t1721 = true then ((paymasterlaw02_refused.f (⟨#[49, 32]⟩ : ByteArray) 20).bind fun t1722 => (if t1722 = true then ((paymasterlaw02_refused.f (⟨#[]⟩ : ByteArray) 20).bind fun t1723 => (if t1723 = true then ((u128_Of.f 1234567).bind fun bt1724 => ((decimal_Grouped.f bt1724.1 bt1724.2).bind fun t1726 => (if t1726.toList = ([49, 95, 50, 51, 52, 95, 53, 54, 55] : List UInt8) then (if t1708 = 0 then ((decimal_Digits.f t1706 t1707).bind fun t1727 => (if t1727 = 39 then ((decimal_Digit.f t1706 t1707 38).bind fun t1728 => (if t1728 = 1 then ((decimal_Digit.f t1706 t1707 37).bind fun t1729 => (if t1729 = 0 then (some (t1712 == 10)) else (none))) else (none))) else (none))) else (none)) else (none)))) else (none))) else (none))) else (none))) = some r := by rw [if_pos rfl] at H; exact H
                clear H
                have H := H1
                clear H1
                replace H := Option.bind_eq_some_iff.mp H
                obtain ⟨t1721, A170, H⟩ := H
                replace H : (if t1721 = true then ((paymasterlaw02_refused.f (⟨#[49, 32]⟩ : ByteArray) 20).bind fun t1722 => (if t1722 = true then ((paymasterlaw02_refused.f (⟨#[]⟩ : ByteArray) 20).bind fun t1723 => (if t1723 = true then ((u128_Of.f 1234567).bind fun bt1724 => ((decimal_Grouped.f bt1724.1 bt1724.2).bind fun t1726 => (if t1726.toList = ([49, 95, 50, 51, 52, 95, 53, 54, 55] : List UInt8) then (if t1708 = 0 then ((decimal_Digits.f t1706 t1707).bind fun t1727 => (if t1727 = 39 then ((decimal_Digit.f t1706 t1707 38).bind fun t1728 => (if t1728 = 1 then ((decimal_Digit.f t1706 t1707 37).bind fun t1729 => (if t1729 = 0 then (some (t1712 == 10)) else (none))) else (none))) else (none))) else (none)) else (none)))) else (none))) else (none))) else (none)) = some r := H
                have A17 := Aside0.mk A170
                clear A170
                by_cases c18 : t1721 = true
                · subst c18
                  have H1 : ((paymasterlaw02_refused.f (⟨#[49, 32]⟩ : ByteArray) 20).bind fun t1722 => (if t1722 = true then ((paymasterlaw02_refused.f (⟨#[]⟩ : ByteArray) 20).bind fun t1723 => (if t1723 = true then ((u128_Of.f 1234567).bind fun bt1724 => ((decimal_Grouped.f bt1724.1 bt1724.2).bind fun t1726 => (if t1726.toList = ([49, 95, 50, 51, 52, 95, 53, 54, 55] : List UInt8) then (if t1708 = 0 then ((decimal_Digits.f t1706 t1707).bind fun t1727 => (if t1727 = 39 then ((decimal_Digit.f t1706 t1707 38).bind fun t1728 => (if t1728 = 1 then ((decimal_Digit.f t1706 t1707 37).bind fun t1729 => (if t1729 = 0 then (some (t1712 == 10)) else (none))) else (none))) else (none))) else (none)) else (none)))) else (none))) else (none))) = some r := by rw [if_pos rfl] at H; exact H
                  clear H
                  have H := H1
                  clear H1
                  replace H := Option.bind_eq_some_iff.mp H
                  obtain ⟨t1722, A190, H⟩ := H
                  replace H : (if t1722 = true then ((paymasterlaw02_refused.f (⟨#[]⟩ : ByteArray) 20).bind fun t1723 => (if t1723 = true then ((u128_Of.f 1234567).bind fun bt1724 => ((decimal_Grouped.f bt1724.1 bt1724.2).bind fun t1726 => (if t1726.toList = ([49, 95, 50, 51, 52, 95, 53, 54, 55] : List UInt8) then (if t1708 = 0 then ((decimal_Digits.f t1706 t1707).bind fun t1727 => (if t1727 = 39 then ((decimal_Digit.f t1706 t1707 38).bind fun t1728 => (if t1728 = 1 then ((decimal_Digit.f t1706 t1707 37).bind fun t1729 => (if t1729 = 0 then (some (t1712 == 10)) else (none))) else (none))) else (none))) else (none)) else (none)))) else (none))) else (none)) = some r := H
                  have A19 := Aside0.mk A190
                  clear A190
                  by_cases c20 : t1722 = true
                  · subst c20
                    have H1 : ((paymasterlaw02_refused.f (⟨#[]⟩ : ByteArray) 20).bind fun t1723 => (if t1723 = true then ((u128_Of.f 1234567).bind fun bt1724 => ((decimal_Grouped.f bt1724.1 bt1724.2).bind fun t1726 => (if t1726.toList = ([49, 95, 50, 51, 52, 95, 53, 54, 55] : List UInt8) then (if t1708 = 0 then ((decimal_Digits.f t1706 t1707).bind fun t1727 => (if t1727 = 39 then ((decimal_Digit.f t1706 t1707 38).bind fun t1728 => (if t1728 = 1 then ((decimal_Digit.f t1706 t1707 37).bind fun t1729 => (if t1729 = 0 then (some (t1712 == 10)) else (none))) else (none))) else (none))) else (none)) else (none)))) else (none))) = some r := by rw [if_pos rfl] at H; exact H
                    clear H
                    have H := H1
                    clear H1
                    replace H := Option.bind_eq_some_iff.mp H
                    obtain ⟨t1723, A210, H⟩ := H
                    replace H : (if t1723 = true then ((u128_Of.f 1234567).bind fun bt1724 => ((decimal_Grouped.f bt1724.1 bt1724.2).bind fun t1726 => (if t1726.toList = ([49, 95, 50, 51, 52, 95, 53, 54, 55] : List UInt8) then (if t1708 = 0 then ((decimal_Digits.f t1706 t1707).bind fun t1727 => (if t1727 = 39 then ((decimal_Digit.f t1706 t1707 38).bind fun t1728 => (if t1728 = 1 then ((decimal_Digit.f t1706 t1707 37).bind fun t1729 => (if t1729 = 0 then (some (t1712 == 10)) else (none))) else (none))) else (none))) else (none)) else (none)))) else (none)) = some r := H
                    have A21 := Aside0.mk A210
                    clear A210
                    by_cases c22 : t1723 = true
                    · subst c22
                      have H1 : ((u128_Of.f 1234567).bind fun bt1724 => ((decimal_Grouped.f bt1724.1 bt1724.2).bind fun t1726 => (if t1726.toList = ([49, 95, 50, 51, 52, 95, 53, 54, 55] : List UInt8) then (if t1708 = 0 then ((decimal_Digits.f t1706 t1707).bind fun t1727 => (if t1727 = 39 then ((decimal_Digit.f t1706 t1707 38).bind fun t1728 => (if t1728 = 1 then ((decimal_Digit.f t1706 t1707 37).bind fun t1729 => (if t1729 = 0 then (some (t1712 == 10)) else (none))) else (none))) else (none))) else (none)) else (none)))) = some r := by rw [if_pos rfl] at H; exact H
                      clear H
                      have H := H1
                      clear H1
                      replace H := Option.bind_eq_some_iff.mp H
                      obtain ⟨⟨t1724, t1725⟩, A230, H⟩ := H
                      replace H : ((decimal_Grouped.f t1724 t1725).bind fun t1726 => (if t1726.toList = ([49, 95, 50, 51, 52, 95, 53, 54, 55] : List UInt8) then (if t1708 = 0 then ((decimal_Digits.f t1706 t1707).bind fun t1727 => (if t1727 = 39 then ((decimal_Digit.f t1706 t1707 38).bind fun t1728 => (if t1728 = 1 then ((decimal_Digit.f t1706 t1707 37).bind fun t1729 => (if t1729 = 0 then (some (t1712 == 10)) else (none))) else (none))) else (none))) else (none)) else (none))) = some r := H
                      have A23 := Aside0.mk A230
                      clear A230
                      replace H := Option.bind_eq_some_iff.mp H
                      obtain ⟨t1726, A240, H⟩ := H
                      replace H : (if t1726.toList = ([49, 95, 50, 51, 52, 95, 53, 54, 55] : List UInt8) then (if t1708 = 0 then ((decimal_Digits.f t1706 t1707).bind fun t1727 => (if t1727 = 39 then ((decimal_Digit.f t1706 t1707 38).bind fun t1728 => (if t1728 = 1 then ((decimal_Digit.f t1706 t1707 37).bind fun t1729 => (if t1729 = 0 then (some (t1712 == 10)) else (none))) else (none))) else (none))) else (none)) else (none)) = some r := H
                      have A24 := Aside0.mk A240
                      clear A240
                      by_cases c25 : t1726.toList = ([49, 95, 50, 51, 52, 95, 53, 54, 55] : List UInt8)
                      · rw [if_pos c25] at H
                        have c25b0 : (t1726.toList == ([49, 95, 50, 51, 52, 95, 53, 54, 55] : List UInt8)) = true := beq_iff_eq.mpr c25
                        have c25b1 : (t1726.toList != ([49, 95, 50, 51, 52, 95, 53, 54, 55] : List UInt8)) = false := bne_eq_false_iff_eq.mpr c25
                        clear c25
                        by_cases c26 : t1708 = 0
                        · rw [if_pos c26] at H
                          have c26b0 : (t1708 == 0) = true := beq_iff_eq.mpr c26
                          have c26b1 : (t1708 != 0) = false := bne_eq_false_iff_eq.mpr c26
                          clear c26
                          replace H := Option.bind_eq_some_iff.mp H
                          obtain ⟨t1727, A270, H⟩ := H
                          replace H : (if t1727 = 39 then ((decimal_Digit.f t1706 t1707 38).bind fun t1728 => (if t1728 = 1 then ((decimal_Digit.f t1706 t1707 37).bind fun t1729 => (if t1729 = 0 then (some (t1712 == 10)) else (none))) else (none))) else (none)) = some r := H
                          have A27 := Aside0.mk A270
                          clear A270
                          by_cases c28 : t1727 = 39
                          · rw [if_pos c28] at H
                            have c28b0 : (t1727 == 39) = true := beq_iff_eq.mpr c28
                            have c28b1 : (t1727 != 39) = false := bne_eq_false_iff_eq.mpr c28
                            clear c28
                            replace H := Option.bind_eq_some_iff.mp H
                            obtain ⟨t1728, A290, H⟩ := H
                            replace H : (if t1728 = 1 then ((decimal_Digit.f t1706 t1707 37).bind fun t1729 => (if t1729 = 0 then (some (t1712 == 10)) else (none))) else (none)) = some r := H
                            have A29 := Aside0.mk A290
                            clear A290
                            by_cases c30 : t1728 = 1
                            · rw [if_pos c30] at H
                              have c30b0 : (t1728 == 1) = true := beq_iff_eq.mpr c30
                              have c30b1 : (t1728 != 1) = false := bne_eq_false_iff_eq.mpr c30
                              clear c30
                              replace H := Option.bind_eq_some_iff.mp H
                              obtain ⟨t1729, A310, H⟩ := H
                              replace H : (if t1729 = 0 then (some (t1712 == 10)) else (none)) = some r := H
                              have A31 := Aside0.mk A310
                              clear A310
                              by_cases c32 : t1729 = 0
                              · rw [if_pos c32] at H
                                have c32b0 : (t1729 == 0) = true := beq_iff_eq.mpr c32
                                have c32b1 : (t1729 != 0) = false := bne_eq_false_iff_eq.mpr c32
                                clear c32
                                obtain rfl := Option.some.inj H
                                go_enter Try.func81, Try.ntmps81
                                try go_wp2_with (first | ((with_reducible refine gate_callee (f := 76) rfl ?_); refine goesL_ (some 8) rfl rfl Try.func76 (by kernel_rfl) rfl #[.string (⟨#[51, 52, 48, 50, 56, 50, 51, 54, 54, 57, 50, 48, 57, 51, 56, 52, 54, 51, 52, 54, 51, 51, 55, 52, 54, 48, 55, 52, 51, 49, 55, 54, 56, 50, 49, 49, 52, 53, 53]⟩ : ByteArray)] rfl (by (try simp only [List.map_toArray, List.map_cons, List.map_nil]); first | done | rfl | (simp only [List.length_drop, List.length_take]; rfl)) ?_; (with_reducible refine (decimal_Parse.calls (⟨#[51, 52, 48, 50, 56, 50, 51, 54, 54, 57, 50, 48, 57, 51, 56, 52, 54, 51, 52, 54, 51, 51, 55, 52, 54, 48, 55, 52, 51, 49, 55, 54, 56, 50, 49, 49, 52, 53, 53]⟩ : ByteArray) t1702 t1703 t1704 _ A1.out).mono ?_); rintro e w33 ⟨rfl, hb⟩; refine ⟨_, rfl, ?_⟩; have n0_ := Aside0.mk (below_step (by repeat (first | (with_reducible first | exact HB.out | apply below_alloc | apply pw_below_drewN | apply below_drew1) | exact HB.out)) hb); clear HB; have HB := n0_; clear n0_; (try clear hb); (try clear hb2); (try clear hk); (try clear hi)) | ((with_reducible refine gate_dst (N := 1) rfl ?_); refine box_event ?hg (N := 1) ?hd (cs := #[.int .u64 0, .int .u64 0]) (t := 25) ?hr ?_; (case hd => rfl); (case hg => rfl); (case hr => first | (go_simp; done) | (go_simp; rfl)); intro gb1705 hg w34 hbox hb; have n0_ := Aside0.mk (below_step (by repeat (first | (with_reducible first | exact HB.out | apply below_alloc | apply pw_below_drewN | apply below_drew1) | exact HB.out)) hb); have n1_ := Aside0.mk (hbox); have n2_ := Aside0.mk ((by rw [hg]; exact (below_size (by repeat (first | (with_reducible first | exact HB.out | apply below_alloc | apply pw_below_drewN | apply below_drew1) | exact HB.out))) : w.heap.size ≤ gb1705)); have n3_ := Aside0.mk ((by rw [hg]; exact (below_size (by repeat (first | (with_reducible first | exact HB.out | apply below_alloc | apply pw_below_drewN | apply below_drew1) | exact HB.out))) : w.heap.size ≤ gb1705)); clear HB; have HB := n0_; have BK1705 := n1_; have GW1705 := n2_; have GE1705 := n3_; clear n0_ n1_ n2_ n3_; clear hb hbox hg; have hcz35_0 : w34.cell? ⟨gb1705, 0, none⟩ = some (.int .u64 0) := (blk_cell BK1705.out 0).trans rfl; have hcz35_1 : w34.cell? ⟨gb1705, 1, none⟩ = some (.int .u64 0) := (blk_cell BK1705.out 1).trans rfl; have hfz35_0 := blk_frozen BK1705.out 0; have hfz35_1 := blk_frozen BK1705.out 1) | ((with_reducible refine gate_callee (f := 60) rfl ?_); refine goesL_ (some 12) rfl rfl Try.func60 (by kernel_rfl) rfl #[.int .i64 38] rfl (by (try simp only [List.map_toArray, List.map_cons, List.map_nil]); first | done | rfl | (simp only [List.length_drop, List.length_take]; rfl)) ?_; (with_reducible refine (decimal_Ten.calls k 38 t1706 t1707 t1708 _ A2.out).mono ?_); rintro e w36 ⟨rfl, hb⟩; refine ⟨_, rfl, ?_⟩; have n0_ := Aside0.mk (blk_below (g := gb1705) (o := .cells #[.int .u64 t1702, .int .u64 t1703] 25 (0, 0)) (by (with_reducible repeat (first | refine blk_drewN ?_ _ | refine blk_drew ?_ | refine blk_alloc ?_ _)); refine blk_put (cs := #[.int .u64 t1702, .int .u64 0]) ?_ 1 _ rfl; (with_reducible repeat (first | refine blk_drewN ?_ _ | refine blk_drew ?_ | refine blk_alloc ?_ _)); refine blk_put (cs := #[.int .u64 0, .int .u64 0]) ?_ 0 _ rfl; (with_reducible repeat (first | refine blk_drewN ?_ _ | refine blk_drew ?_ | refine blk_alloc ?_ _)); exact BK1705.out) hb); have n1_ := Aside0.mk (below_step (by repeat (first | (with_reducible first | exact HB.out | apply below_alloc | apply pw_below_drewN | apply below_drew1 | refine below_set ?_ GE1705.out) | exact HB.out)) hb); clear BK1705; clear HB; have BK1705 := n0_; have HB := n1_; clear n0_ n1_; (try clear hb); (try clear hb2); (try clear hk); (try clear hi)) | ((with_reducible refine gate_dst (N := 3) rfl ?_); refine box_event ?hg (N := 3) ?hd (cs := #[.int .u64 0, .int .u64 0]) (t := 25) ?hr ?_; (case hd => rfl); (case hg => rfl); (case hr => first | (go_simp; done) | (go_simp; rfl)); intro gb1709 hg w37 hbox hb; have n0_ := Aside0.mk (blk_below (g := gb1705) (o := .cells #[.int .u64 t1702, .int .u64 t1703] 25 (0, 0)) (by (with_reducible repeat (first | refine blk_drewN ?_ _ | refine blk_drew ?_ | refine blk_alloc ?_ _)); exact BK1705.out) hb); have n1_ := Aside0.mk (below_step (by repeat (first | (with_reducible first | exact HB.out | apply below_alloc | apply pw_below_drewN | apply below_drew1 | refine below_set ?_ GE1705.out) | exact HB.out)) hb); have n2_ := Aside0.mk (hbox); have n3_ := Aside0.mk ((by rw [hg]; exact (below_size (by repeat (first | (with_reducible first | exact HB.out | apply below_alloc | apply pw_below_drewN | apply below_drew1 | refine below_set ?_ GE1705.out) | exact HB.out))) : w.heap.size ≤ gb1709)); have n4_ := Aside0.mk ((by rw [hg]; exact (below_size (by repeat (first | (with_reducible first | exact HB.out | apply below_alloc | apply pw_below_drewN | apply below_drew1 | refine below_set ?_ GE1705.out) | exact HB.out))) : w.heap.size ≤ gb1709)); have n5_ := Aside0.mk ((by rw [hg]; exact Nat.ne_of_lt (blk_lt (g := gb1705) (o := .cells #[.int .u64 t1702, .int .u64 t1703] 25 (0, 0)) (by (with_reducible repeat (first | refine blk_drewN ?_ _ | refine blk_drew ?_ | refine blk_alloc ?_ _)); exact BK1705.out)) : gb1705 ≠ gb1709)); have n6_ := Aside0.mk ((by rw [hg]; exact Nat.ne_of_gt (blk_lt (g := gb1705) (o := .cells #[.int .u64 t1702, .int .u64 t1703] 25 (0, 0)) (by (with_reducible repeat (first | refine blk_drewN ?_ _ | refine blk_drew ?_ | refine blk_alloc ?_ _)); exact BK1705.out)) : gb1709 ≠ gb1705)); clear BK1705; clear HB; have BK1705 := n0_; have HB := n1_; have BK1709 := n2_; have GW1709 := n3_; have GE1709 := n4_; have NB1705_1709 := n5_; have NB1709_1705 := n6_; clear n0_ n1_ n2_ n3_ n4_ n5_ n6_; clear hb hbox hg; have hnb38 := NB1709_1705.out; have hnc38 := NB1705_1709.out; have hcz39_0 : w37.cell? ⟨gb1709, 0, none⟩ = some (.int .u64 0) := (blk_cell BK1709.out 0).trans rfl; have hcz39_1 : w37.cell? ⟨gb1709, 1, none⟩ = some (.int .u64 0) := (blk_cell BK1709.out 1).trans rfl; have hfz39_0 := blk_frozen BK1709.out 0; have hfz39_1 := blk_frozen BK1709.out 1) | ((with_reducible refine gate_callee (f := 60) rfl ?_); refine goesL_ (some 16) rfl rfl Try.func60 (by kernel_rfl) rfl #[.int .i64 39] rfl (by (try simp only [List.map_toArray, List.map_cons, List.map_nil]); first | done | rfl | (simp only [List.length_drop, List.length_take]; rfl)) ?_; (with_reducible refine (decimal_Ten.calls k 39 t1710 t1711 t1712 _ A3.out).mono ?_); rintro e w40 ⟨rfl, hb⟩; refine ⟨_, rfl, ?_⟩; have n0_ := Aside0.mk (blk_below (g := gb1705) (o := .cells #[.int .u64 t1702, .int .u64 t1703] 25 (0, 0)) (by (with_reducible repeat (first | refine blk_drewN ?_ _ | refine blk_drew ?_ | refine blk_alloc ?_ _)); refine blk_far ?_ NB1705_1709.out _; (with_reducible repeat (first | refine blk_drewN ?_ _ | refine blk_drew ?_ | refine blk_alloc ?_ _)); refine blk_far ?_ NB1705_1709.out _; (with_reducible repeat (first | refine blk_drewN ?_ _ | refine blk_drew ?_ | refine blk_alloc ?_ _)); exact BK1705.out) hb); have n1_ := Aside0.mk (blk_below (g := gb1709) (o := .cells #[.int .u64 t1706, .int .u64 t1707] 25 (0, 0)) (by (with_reducible repeat (first | refine blk_drewN ?_ _ | refine blk_drew ?_ | refine blk_alloc ?_ _)); refine blk_put (cs := #[.int .u64 t1706, .int .u64 0]) ?_ 1 _ rfl; (with_reducible repeat (first | refine blk_drewN ?_ _ | refine blk_drew ?_ | refine blk_alloc ?_ _)); refine blk_put (cs := #[.int .u64 0, .int .u64 0]) ?_ 0 _ rfl; (with_reducible repeat (first | refine blk_drewN ?_ _ | refine blk_drew ?_ | refine blk_alloc ?_ _)); exact BK1709.out) hb); have n2_ := Aside0.mk (below_step (by repeat (first | (with_reducible first | exact HB.out | apply below_alloc | apply pw_below_drewN | apply below_drew1 | refine below_set ?_ GE1705.out | refine below_set ?_ GE1709.out) | exact HB.out)) hb); clear BK1705; clear BK1709; clear HB; have BK1705 := n0_; have BK1709 := n1_; have HB := n2_; clear n0_ n1_ n2_; (try clear hb); (try clear hb2); (try clear hk); (try clear hi)) | ((with_reducible refine gate_dst (N := 5) rfl ?_); refine box_event ?hg (N := 5) ?hd (cs := #[.int .u64 0, .int .u64 0]) (t := 25) ?hr ?_; (case hd => rfl); (case hg => rfl); (case hr => first | (go_simp; done) | (go_simp; rfl)); intro gb1713 hg w41 hbox hb; have n0_ := Aside0.mk (blk_below (g := gb1705) (o := .cells #[.int .u64 t1702, .int .u64 t1703] 25 (0, 0)) (by (with_reducible repeat (first | refine blk_drewN ?_ _ | refine blk_drew ?_ | refine blk_alloc ?_ _)); exact BK1705.out) hb); have n1_ := Aside0.mk (blk_below (g := gb1709) (o := .cells #[.int .u64 t1706, .int .u64 t1707] 25 (0, 0)) (by (with_reducible repeat (first | refine blk_drewN ?_ _ | refine blk_drew ?_ | refine blk_alloc ?_ _)); exact BK1709.out) hb); have n2_ := Aside0.mk (below_step (by repeat (first | (with_reducible first | exact HB.out | apply below_alloc | apply pw_below_drewN | apply below_drew1 | refine below_set ?_ GE1705.out | refine below_set ?_ GE1709.out) | exact HB.out)) hb); have n3_ := Aside0.mk (hbox); have n4_ := Aside0.mk ((by rw [hg]; exact (below_size (by repeat (first | (with_reducible first | exact HB.out | apply below_alloc | apply pw_below_drewN | apply below_drew1 | refine below_set ?_ GE1705.out | refine below_set ?_ GE1709.out) | exact HB.out))) : w.heap.size ≤ gb1713)); have n5_ := Aside0.mk ((by rw [hg]; exact (below_size (by repeat (first | (with_reducible first | exact HB.out | apply below_alloc | apply pw_below_drewN | apply below_drew1 | refine below_set ?_ GE1705.out | refine below_set ?_ GE1709.out) | exact HB.out))) : w.heap.size ≤ gb1713)); have n6_ := Aside0.mk ((by rw [hg]; exact Nat.ne_of_lt (blk_lt (g := gb1705) (o := .cells #[.int .u64 t1702, .int .u64 t1703] 25 (0, 0)) (by (with_reducible repeat (first | refine blk_drewN ?_ _ | refine blk_drew ?_ | refine blk_alloc ?_ _)); exact BK1705.out)) : gb1705 ≠ gb1713)); have n7_ := Aside0.mk ((by rw [hg]; exact Nat.ne_of_gt (blk_lt (g := gb1705) (o := .cells #[.int .u64 t1702, .int .u64 t1703] 25 (0, 0)) (by (with_reducible repeat (first | refine blk_drewN ?_ _ | refine blk_drew ?_ | refine blk_alloc ?_ _)); exact BK1705.out)) : gb1713 ≠ gb1705)); have n8_ := Aside0.mk ((by rw [hg]; exact Nat.ne_of_lt (blk_lt (g := gb1709) (o := .cells #[.int .u64 t1706, .int .u64 t1707] 25 (0, 0)) (by (with_reducible repeat (first | refine blk_drewN ?_ _ | refine blk_drew ?_ | refine blk_alloc ?_ _)); exact BK1709.out)) : gb1709 ≠ gb1713)); have n9_ := Aside0.mk ((by rw [hg]; exact Nat.ne_of_gt (blk_lt (g := gb1709) (o := .cells #[.int .u64 t1706, .int .u64 t1707] 25 (0, 0)) (by (with_reducible repeat (first | refine blk_drewN ?_ _ | refine blk_drew ?_ | refine blk_alloc ?_ _)); exact BK1709.out)) : gb1713 ≠ gb1709)); clear BK1705; clear BK1709; clear HB; have BK1705 := n0_; have BK1709 := n1_; have HB := n2_; have BK1713 := n3_; have GW1713 := n4_; have GE1713 := n5_; have NB1705_1713 := n6_; have NB1713_1705 := n7_; have NB1709_1713 := n8_; have NB1713_1709 := n9_; clear n0_ n1_ n2_ n3_ n4_ n5_ n6_ n7_ n8_ n9_; clear hb hbox hg; have hnb42 := NB1713_1705.out; have hnc42 := NB1705_1713.out; have hnb43 := NB1713_1709.out; have hnc43 := NB1709_1713.out; have hcz44_0 : w41.cell? ⟨gb1713, 0, none⟩ = some (.int .u64 0) := (blk_cell BK1713.out 0).trans rfl; have hcz44_1 : w41.cell? ⟨gb1713, 1, none⟩ = some (.int .u64 0) := (blk_cell BK1713.out 1).trans rfl; have hfz44_0 := blk_frozen BK1713.out 0; have hfz44_1 := blk_frozen BK1713.out 1))
                                have n0_ : Aside0 (((w41.setCell ⟨gb1713, 0, none⟩ (.int .u64 t1710)).setCell ⟨gb1713, 1, none⟩ (.int .u64 t1711)).heap[gb1705]? = some (.cells #[.int .u64 t1702, .int .u64 t1703] 25 (0, 0))) := ⟨by (with_reducible repeat (first | refine blk_drewN ?_ _ | refine blk_drew ?_ | refine blk_alloc ?_ _)); refine blk_far ?_ NB1705_1713.out _; (with_reducible repeat (first | refine blk_drewN ?_ _ | refine blk_drew ?_ | refine blk_alloc ?_ _)); refine blk_far ?_ NB1705_1713.out _; (with_reducible repeat (first | refine blk_drewN ?_ _ | refine blk_drew ?_ | refine blk_alloc ?_ _)); exact BK1705.out⟩
                                have n1_ : Aside0 (((w41.setCell ⟨gb1713, 0, none⟩ (.int .u64 t1710)).setCell ⟨gb1713, 1, none⟩ (.int .u64 t1711)).heap[gb1709]? = some (.cells #[.int .u64 t1706, .int .u64 t1707] 25 (0, 0))) := ⟨by (with_reducible repeat (first | refine blk_drewN ?_ _ | refine blk_drew ?_ | refine blk_alloc ?_ _)); refine blk_far ?_ NB1709_1713.out _; (with_reducible repeat (first | refine blk_drewN ?_ _ | refine blk_drew ?_ | refine blk_alloc ?_ _)); refine blk_far ?_ NB1709_1713.out _; (with_reducible repeat (first | refine blk_drewN ?_ _ | refine blk_drew ?_ | refine blk_alloc ?_ _)); exact BK1709.out⟩
                                have n2_ : Aside0 (((w41.setCell ⟨gb1713, 0, none⟩ (.int .u64 t1710)).setCell ⟨gb1713, 1, none⟩ (.int .u64 t1711)).heap[gb1713]? = some (.cells #[.int .u64 t1710, .int .u64 t1711] 25 (0, 0))) := ⟨by (with_reducible repeat (first | refine blk_drewN ?_ _ | refine blk_drew ?_ | refine blk_alloc ?_ _)); refine blk_put (cs := #[.int .u64 t1710, .int .u64 0]) ?_ 1 _ rfl; (with_reducible repeat (first | refine blk_drewN ?_ _ | refine blk_drew ?_ | refine blk_alloc ?_ _)); refine blk_put (cs := #[.int .u64 0, .int .u64 0]) ?_ 0 _ rfl; (with_reducible repeat (first | refine blk_drewN ?_ _ | refine blk_drew ?_ | refine blk_alloc ?_ _)); exact BK1713.out⟩
                                have n3_ : Aside0 (Below w.heap.size w ((w41.setCell ⟨gb1713, 0, none⟩ (.int .u64 t1710)).setCell ⟨gb1713, 1, none⟩ (.int .u64 t1711))) := ⟨by repeat (first | (with_reducible first | exact HB.out | apply below_alloc | apply pw_below_drewN | apply below_drew1 | refine below_set ?_ GE1705.out | refine below_set ?_ GE1709.out | refine below_set ?_ GE1713.out) | exact HB.out)⟩
                                (try clear BK1705)
                                (try clear BK1709)
                                (try clear BK1713)
                                (try clear HB)
                                generalize ((w41.setCell ⟨gb1713, 0, none⟩ (.int .u64 t1710)).setCell ⟨gb1713, 1, none⟩ (.int .u64 t1711)) = w45 at n0_ n1_ n2_ n3_ ⊢
                                have BK1705 := n0_
                                have BK1709 := n1_
                                have BK1713 := n2_
                                have HB := n3_
                                clear n0_ n1_ n2_ n3_
                                have n0_ := Aside0.mk (blk_drew BK1705.out)
                                have n1_ := Aside0.mk (blk_drew BK1709.out)
                                have n2_ := Aside0.mk (blk_drew BK1713.out)
                                have n3_ := Aside0.mk (below_drew1 HB.out)
                                clear BK1705
                                clear BK1709
                                clear BK1713
                                clear HB
                                have BK1705 := n0_
                                have BK1709 := n1_
                                have BK1713 := n2_
                                have HB := n3_
                                clear n0_ n1_ n2_ n3_
                                refine start_ (n := 66) (S := fun w' => w'.cell? ⟨gb1705, 0, none⟩ = some (.int .u64 t1702) ∧ w'.cell? ⟨gb1705, 1, none⟩ = some (.int .u64 t1703) ∧ w'.cell? ⟨gb1709, 0, none⟩ = some (.int .u64 t1706) ∧ w'.cell? ⟨gb1709, 1, none⟩ = some (.int .u64 t1707)) (ds := []) #[false, false, false, false, false, false, false, false, false, false, false, false, false, false, false, false, false, false, false, false, false, false, false, false, false, false, false, false, false, false, false, false, false, false, false, false, false, false, false, false, false, false, false, false, false, false, false, false, false, false, false, false, false, false, false, false, false, false, false, false, false, false, false, false, false, false] (by kernel_rfl) rfl rfl ⟨(blk_cell BK1705.out 0).trans rfl, (blk_cell BK1705.out 1).trans rfl, (blk_cell BK1709.out 0).trans rfl, (blk_cell BK1709.out 1).trans rfl⟩ (fun hHeld => ?_); refine with_tabW paymasterlaw02_awake.tab4 paymasterlaw02_awake.bits4 (fun HT_ HW_ => ?_)
                                generalize w45.drew = w46 at BK1705 BK1709 BK1713 HB hHeld ⊢
                                refine pure_ (i := 0) (N := some 19) (v := ?_) (a' := ?_) #[true, false, false, false, false, false, false, false, false, false, false, false, false, false, false, false, false, false, false, false, false, false, false, false, false, false, false, false, false, false, false, false, false, false, false, false, false, false, false, false, false, false, false, false, false, false, false, false, false, false, false, false, false, false, false, false, false, false, false, false, false, false, false, false, false, false] rfl rfl (any_of HT_.out (by kernel_rfl)) (fun _ _ _ h => h) (Or.inl ⟨by rfl, ?_⟩) ?_ ?_
                                rotate_left
                                · intro w'
                                  go_simp
                                  with_reducible rfl
                                rotate_left
                                · simp only [Act.put, List.setIfInBounds_toArray, List.set_cons_zero, List.set_cons_succ, i64_w, i32_w]
                                  rfl
                                refine pure_ (i := 1) (N := some 20) (v := ?_) (a' := ?_) #[true, true, false, false, false, false, false, false, false, false, false, false, false, false, false, false, false, false, false, false, false, false, false, false, false, false, false, false, false, false, false, false, false, false, false, false, false, false, false, false, false, false, false, false, false, false, false, false, false, false, false, false, false, false, false, false, false, false, false, false, false, false, false, false, false, false] rfl rfl (any_of HT_.out (by kernel_rfl)) (fun _ _ _ h => h) (Or.inl ⟨by rfl, ?_⟩) ?_ ?_
                                rotate_left
                                · intro w'
                                  go_simp
                                  with_reducible rfl
                                rotate_left
                                · simp only [Act.put, List.setIfInBounds_toArray, List.set_cons_zero, List.set_cons_succ, i64_w, i32_w]
                                  rfl
                                refine pure_ (i := 2) (N := some 21) (v := ?_) (a' := ?_) #[true, true, true, false, false, false, false, false, false, false, false, false, false, false, false, false, false, false, false, false, false, false, false, false, false, false, false, false, false, false, false, false, false, false, false, false, false, false, false, false, false, false, false, false, false, false, false, false, false, false, false, false, false, false, false, false, false, false, false, false, false, false, false, false, false, false] rfl rfl (any_of HT_.out (by kernel_rfl)) (fun _ _ _ h => h) (Or.inl ⟨by rfl, ?_⟩) ?_ ?_
                                rotate_left
                                · intro w'
                                  go_simp
                                  with_reducible rfl
                                rotate_left
                                · simp only [Act.put, List.setIfInBounds_toArray, List.set_cons_zero, List.set_cons_succ, i64_w, i32_w]
                                  rfl
                                refine take_ (i := 3) (N := some 22) (v := ?_) (a' := ?_) #[true, true, true, true, false, false, false, false, false, false, false, false, false, false, false, false, false, false, false, false, false, false, false, false, false, false, false, false, false, false, false, false, false, false, false, false, false, false, false, false, false, false, false, false, false, false, false, false, false, false, false, false, false, false, false, false, false, false, false, false, false, false, false, false, false, false] rfl rfl (take_ofW HT_.out HW_.out (by kernel_rfl)) (fun _ _ _ h => h) (Or.inl ⟨by rfl, ?_⟩) hHeld ?_ ?_
                                rotate_left
                                · rintro w' ⟨s0, s1, s2, s3⟩
                                  go_simp
                                  with_reducible rfl
                                rotate_left
                                · simp only [Act.put, List.setIfInBounds_toArray, List.set_cons_zero, List.set_cons_succ, i64_w, i32_w]
                                  rfl
                                refine one_ (i := 4) (N := some 23) #[true, true, true, true, true, false, false, false, false, false, false, false, false, false, false, false, false, false, false, false, false, false, false, false, false, false, false, false, false, false, false, false, false, false, false, false, false, false, false, false, false, false, false, false, false, false, false, false, false, false, false, false, false, false, false, false, false, false, false, false, false, false, false, false, false, false] rfl rfl (one_of HT_.out (by kernel_rfl)) (by decide) (fun K hK => ?_)
                                refine goes_ Try.func53 (by kernel_rfl) rfl #[] (by rfl) rfl rfl (by (try simp only [List.map_toArray, List.map_cons, List.map_nil]); first | done | rfl | (simp only [List.length_drop, List.length_take]; rfl)) ?_
                                with_reducible refine (u128_Most.calls  t1714 t1715 _ A5.out).mono ?_
                                rintro e w47 ⟨rfl, hb⟩
                                refine ⟨_, rfl, ?_⟩
                                have n0_ := Aside0.mk (blk_below (g := gb1705) (o := .cells #[.int .u64 t1702, .int .u64 t1703] 25 (0, 0)) (by (with_reducible repeat (first | refine blk_drewN ?_ _ | refine blk_drew ?_ | refine blk_alloc ?_ _)); exact BK1705.out) hb)
                                have n1_ := Aside0.mk (blk_below (g := gb1709) (o := .cells #[.int .u64 t1706, .int .u64 t1707] 25 (0, 0)) (by (with_reducible repeat (first | refine blk_drewN ?_ _ | refine blk_drew ?_ | refine blk_alloc ?_ _)); exact BK1709.out) hb)
                                have n2_ := Aside0.mk (blk_below (g := gb1713) (o := .cells #[.int .u64 t1710, .int .u64 t1711] 25 (0, 0)) (by (with_reducible repeat (first | refine blk_drewN ?_ _ | refine blk_drew ?_ | refine blk_alloc ?_ _)); exact BK1713.out) hb)
                                have n3_ := Aside0.mk (below_step (by repeat (first | (with_reducible first | exact HB.out | apply below_alloc | apply pw_below_drewN | apply below_drew1 | refine below_set ?_ GE1705.out | refine below_set ?_ GE1709.out | refine below_set ?_ GE1713.out) | exact HB.out)) hb)
                                clear BK1705
                                clear BK1709
                                clear BK1713
                                clear HB
                                have BK1705 := n0_
                                have BK1709 := n1_
                                have BK1713 := n2_
                                have HB := n3_
                                clear n0_ n1_ n2_ n3_
                                (try clear hb)
                                (try clear hb2)
                                (try clear hk)
                                (try clear hi)
                                refine hK.out _ _ ⟨(blk_cell BK1705.out 0).trans rfl, (blk_cell BK1705.out 1).trans rfl, (blk_cell BK1709.out 0).trans rfl, (blk_cell BK1709.out 1).trans rfl⟩ (fun hHeld => ?_)
                                clear hK K
                                refine norm_ (a' := ?_) ?_ ?_
                                rotate_left
                                · show Act.put _ (some 23) _ = _
                                  simp only [Act.put, List.setIfInBounds_toArray, List.set_cons_zero, List.set_cons_succ, i64_w, i32_w]
                                  rfl
                                refine pure_ (i := 5) (N := some 24) (v := ?_) (a' := ?_) #[true, true, true, true, true, true, false, false, false, false, false, false, false, false, false, false, false, false, false, false, false, false, false, false, false, false, false, false, false, false, false, false, false, false, false, false, false, false, false, false, false, false, false, false, false, false, false, false, false, false, false, false, false, false, false, false, false, false, false, false, false, false, false, false, false, false] rfl rfl (any_of HT_.out (by kernel_rfl)) (fun _ _ _ h => h) (Or.inl ⟨by rfl, ?_⟩) ?_ ?_
                                rotate_left
                                · intro w'
                                  go_simp
                                  with_reducible rfl
                                rotate_left
                                · simp only [Act.put, List.setIfInBounds_toArray, List.set_cons_zero, List.set_cons_succ, i64_w, i32_w]
                                  rfl
                                refine pure_ (i := 6) (N := some 25) (v := ?_) (a' := ?_) #[true, true, true, true, true, true, true, false, false, false, false, false, false, false, false, false, false, false, false, false, false, false, false, false, false, false, false, false, false, false, false, false, false, false, false, false, false, false, false, false, false, false, false, false, false, false, false, false, false, false, false, false, false, false, false, false, false, false, false, false, false, false, false, false, false, false] rfl rfl (any_of HT_.out (by kernel_rfl)) (fun _ _ _ h => h) (Or.inl ⟨by rfl, ?_⟩) ?_ ?_
                                rotate_left
                                · intro w'
                                  go_simp
                                  with_reducible rfl
                                rotate_left
                                · simp only [Act.put, List.setIfInBounds_toArray, List.set_cons_zero, List.set_cons_succ, i64_w, i32_w]
                                  rfl
                                refine pure_ (i := 7) (N := some 26) (v := ?_) (a' := ?_) #[true, true, true, true, true, true, true, true, false, false, false, false, false, false, false, false, false, false, false, false, false, false, false, false, false, false, false, false, false, false, false, false, false, false, false, false, false, false, false, false, false, false, false, false, false, false, false, false, false, false, false, false, false, false, false, false, false, false, false, false, false, false, false, false, false, false] rfl rfl (any_of HT_.out (by kernel_rfl)) (fun _ _ _ h => h) (Or.inl ⟨by rfl, ?_⟩) ?_ ?_
                                rotate_left
                                · intro w'
                                  go_simp
                                  with_reducible rfl
                                rotate_left
                                · simp only [Act.put, List.setIfInBounds_toArray, List.set_cons_zero, List.set_cons_succ, i64_w, i32_w]
                                  rfl
                                refine pure_ (i := 8) (N := some 27) (v := ?_) (a' := ?_) #[true, true, true, true, true, true, true, true, true, false, false, false, false, false, false, false, false, false, false, false, false, false, false, false, false, false, false, false, false, false, false, false, false, false, false, false, false, false, false, false, false, false, false, false, false, false, false, false, false, false, false, false, false, false, false, false, false, false, false, false, false, false, false, false, false, false] rfl rfl (any_of HT_.out (by kernel_rfl)) (fun _ _ _ h => h) (Or.inl ⟨by rfl, ?_⟩) ?_ ?_
                                rotate_left
                                · intro w'
                                  go_simp
                                  with_reducible rfl
                                rotate_left
                                · simp only [Act.put, List.setIfInBounds_toArray, List.set_cons_zero, List.set_cons_succ, i64_w, i32_w]
                                  rfl
                                refine one_ (i := 9) (N := some 28) #[true, true, true, true, true, true, true, true, true, true, false, false, false, false, false, false, false, false, false, false, false, false, false, false, false, false, false, false, false, false, false, false, false, false, false, false, false, false, false, false, false, false, false, false, false, false, false, false, false, false, false, false, false, false, false, false, false, false, false, false, false, false, false, false, false, false] rfl rfl (one_of HT_.out (by kernel_rfl)) (by decide) (fun K hK => ?_)
                                refine goes_ Try.func78 (by kernel_rfl) rfl #[.agg #[.int .u64 0, .int .u64 0]] (by rfl) rfl rfl (by (try simp only [List.map_toArray, List.map_cons, List.map_nil]); first | done | rfl | (simp only [List.length_drop, List.length_take]; rfl)) ?_
                                with_reducible refine (decimal_Text.calls 0 0 t1716 _ A7.out).mono ?_
                                rintro e w48 ⟨rfl, hb⟩
                                refine ⟨_, rfl, ?_⟩
                                have n0_ := Aside0.mk (blk_below (g := gb1705) (o := .cells #[.int .u64 t1702, .int .u64 t1703] 25 (0, 0)) (by (with_reducible repeat (first | refine blk_drewN ?_ _ | refine blk_drew ?_ | refine blk_alloc ?_ _)); exact BK1705.out) hb)
                                have n1_ := Aside0.mk (blk_below (g := gb1709) (o := .cells #[.int .u64 t1706, .int .u64 t1707] 25 (0, 0)) (by (with_reducible repeat (first | refine blk_drewN ?_ _ | refine blk_drew ?_ | refine blk_alloc ?_ _)); exact BK1709.out) hb)
                                have n2_ := Aside0.mk (blk_below (g := gb1713) (o := .cells #[.int .u64 t1710, .int .u64 t1711] 25 (0, 0)) (by (with_reducible repeat (first | refine blk_drewN ?_ _ | refine blk_drew ?_ | refine blk_alloc ?_ _)); exact BK1713.out) hb)
                                have n3_ := Aside0.mk (below_step (by repeat (first | (with_reducible first | exact HB.out | apply below_alloc | apply pw_below_drewN | apply below_drew1 | refine below_set ?_ GE1705.out | refine below_set ?_ GE1709.out | refine below_set ?_ GE1713.out) | exact HB.out)) hb)
                                clear BK1705
                                clear BK1709
                                clear BK1713
                                clear HB
                                have BK1705 := n0_
                                have BK1709 := n1_
                                have BK1713 := n2_
                                have HB := n3_
                                clear n0_ n1_ n2_ n3_
                                (try clear hb)
                                (try clear hb2)
                                (try clear hk)
                                (try clear hi)
                                refine hK.out _ _ ⟨(blk_cell BK1705.out 0).trans rfl, (blk_cell BK1705.out 1).trans rfl, (blk_cell BK1709.out 0).trans rfl, (blk_cell BK1709.out 1).trans rfl⟩ (fun hHeld => ?_)
                                clear hK K
                                refine norm_ (a' := ?_) ?_ ?_
                                rotate_left
                                · show Act.put _ (some 28) _ = _
                                  simp only [Act.put, List.setIfInBounds_toArray, List.set_cons_zero, List.set_cons_succ, i64_w, i32_w]
                                  rfl
                                refine pure_ (i := 10) (N := some 29) (v := ?_) (a' := ?_) #[true, true, true, true, true, true, true, true, true, true, true, false, false, false, false, false, false, false, false, false, false, false, false, false, false, false, false, false, false, false, false, false, false, false, false, false, false, false, false, false, false, false, false, false, false, false, false, false, false, false, false, false, false, false, false, false, false, false, false, false, false, false, false, false, false, false] rfl rfl (any_of HT_.out (by kernel_rfl)) (fun _ _ _ h => h) (Or.inl ⟨by rfl, ?_⟩) ?_ ?_
                                rotate_left
                                · intro w'
                                  go_simp
                                  with_reducible rfl
                                rotate_left
                                · simp only [Act.put, List.setIfInBounds_toArray, List.set_cons_zero, List.set_cons_succ, i64_w, i32_w]
                                  rfl
                                refine pure_ (i := 11) (N := some 30) (v := ?_) (a' := ?_) #[true, true, true, true, true, true, true, true, true, true, true, true, false, false, false, false, false, false, false, false, false, false, false, false, false, false, false, false, false, false, false, false, false, false, false, false, false, false, false, false, false, false, false, false, false, false, false, false, false, false, false, false, false, false, false, false, false, false, false, false, false, false, false, false, false, false] rfl rfl (any_of HT_.out (by kernel_rfl)) (fun _ _ _ h => h) (Or.inl ⟨by rfl, ?_⟩) ?_ ?_
                                rotate_left
                                · intro w'
                                  go_simp
                                  with_reducible rfl
                                rotate_left
                                · simp only [Act.put, List.setIfInBounds_toArray, List.set_cons_zero, List.set_cons_succ, i64_w, i32_w]
                                  rfl
                                refine pure_ (i := 12) (N := some 31) (v := ?_) (a' := ?_) #[true, true, true, true, true, true, true, true, true, true, true, true, true, false, false, false, false, false, false, false, false, false, false, false, false, false, false, false, false, false, false, false, false, false, false, false, false, false, false, false, false, false, false, false, false, false, false, false, false, false, false, false, false, false, false, false, false, false, false, false, false, false, false, false, false, false] rfl rfl (any_of HT_.out (by kernel_rfl)) (fun _ _ _ h => h) (Or.inl ⟨by rfl, ?_⟩) ?_ ?_
                                rotate_left
                                · intro w'
                                  go_simp
                                  with_reducible rfl
                                rotate_left
                                · simp only [Act.put, List.setIfInBounds_toArray, List.set_cons_zero, List.set_cons_succ, i64_w, i32_w]
                                  rfl
                                refine take_ (i := 13) (N := some 32) (v := ?_) (a' := ?_) #[true, true, true, true, true, true, true, true, true, true, true, true, true, true, false, false, false, false, false, false, false, false, false, false, false, false, false, false, false, false, false, false, false, false, false, false, false, false, false, false, false, false, false, false, false, false, false, false, false, false, false, false, false, false, false, false, false, false, false, false, false, false, false, false, false, false] rfl rfl (take_ofW HT_.out HW_.out (by kernel_rfl)) (fun _ _ _ h => h) (Or.inl ⟨by rfl, ?_⟩) hHeld ?_ ?_
                                rotate_left
                                · rintro w' ⟨s0, s1, s2, s3⟩
                                  go_simp
                                  with_reducible rfl
                                rotate_left
                                · simp only [Act.put, List.setIfInBounds_toArray, List.set_cons_zero, List.set_cons_succ, i64_w, i32_w]
                                  rfl
                                refine one_ (i := 14) (N := some 33) #[true, true, true, true, true, true, true, true, true, true, true, true, true, true, true, false, false, false, false, false, false, false, false, false, false, false, false, false, false, false, false, false, false, false, false, false, false, false, false, false, false, false, false, false, false, false, false, false, false, false, false, false, false, false, false, false, false, false, false, false, false, false, false, false, false, false] rfl rfl (one_of HT_.out (by kernel_rfl)) (by decide) (fun K hK => ?_)
                                refine goes_ Try.func78 (by kernel_rfl) rfl #[.agg #[.int .u64 t1702, .int .u64 t1703]] (by rfl) rfl rfl (by (try simp only [List.map_toArray, List.map_cons, List.map_nil]); first | done | rfl | (simp only [List.length_drop, List.length_take]; rfl)) ?_
                                with_reducible refine (decimal_Text.calls t1702 t1703 t1717 _ A9.out).mono ?_
                                rintro e w49 ⟨rfl, hb⟩
                                refine ⟨_, rfl, ?_⟩
                                have n0_ := Aside0.mk (blk_below (g := gb1705) (o := .cells #[.int .u64 t1702, .int .u64 t1703] 25 (0, 0)) (by (with_reducible repeat (first | refine blk_drewN ?_ _ | refine blk_drew ?_ | refine blk_alloc ?_ _)); exact BK1705.out) hb)
                                have n1_ := Aside0.mk (blk_below (g := gb1709) (o := .cells #[.int .u64 t1706, .int .u64 t1707] 25 (0, 0)) (by (with_reducible repeat (first | refine blk_drewN ?_ _ | refine blk_drew ?_ | refine blk_alloc ?_ _)); exact BK1709.out) hb)
                                have n2_ := Aside0.mk (blk_below (g := gb1713) (o := .cells #[.int .u64 t1710, .int .u64 t1711] 25 (0, 0)) (by (with_reducible repeat (first | refine blk_drewN ?_ _ | refine blk_drew ?_ | refine blk_alloc ?_ _)); exact BK1713.out) hb)
                                have n3_ := Aside0.mk (below_step (by repeat (first | (with_reducible first | exact HB.out | apply below_alloc | apply pw_below_drewN | apply below_drew1 | refine below_set ?_ GE1705.out | refine below_set ?_ GE1709.out | refine below_set ?_ GE1713.out) | exact HB.out)) hb)
                                clear BK1705
                                clear BK1709
                                clear BK1713
                                clear HB
                                have BK1705 := n0_
                                have BK1709 := n1_
                                have BK1713 := n2_
                                have HB := n3_
                                clear n0_ n1_ n2_ n3_
                                (try clear hb)
                                (try clear hb2)
                                (try clear hk)
                                (try clear hi)
                                refine hK.out _ _ ⟨(blk_cell BK1705.out 0).trans rfl, (blk_cell BK1705.out 1).trans rfl, (blk_cell BK1709.out 0).trans rfl, (blk_cell BK1709.out 1).trans rfl⟩ (fun hHeld => ?_)
                                clear hK K
                                refine norm_ (a' := ?_) ?_ ?_
                                rotate_left
                                · show Act.put _ (some 33) _ = _
                                  simp only [Act.put, List.setIfInBounds_toArray, List.set_cons_zero, List.set_cons_succ, i64_w, i32_w]
                                  rfl
                                refine pure_ (i := 15) (N := some 34) (v := ?_) (a' := ?_) #[true, true, true, true, true, true, true, true, true, true, true, true, true, true, true, true, false, false, false, false, false, false, false, false, false, false, false, false, false, false, false, false, false, false, false, false, false, false, false, false, false, false, false, false, false, false, false, false, false, false, false, false, false, false, false, false, false, false, false, false, false, false, false, false, false, false] rfl rfl (any_of HT_.out (by kernel_rfl)) (fun _ _ _ h => h) (Or.inl ⟨by rfl, ?_⟩) ?_ ?_
                                rotate_left
                                · intro w'
                                  go_simp
                                  with_reducible rfl
                                rotate_left
                                · simp only [Act.put, List.setIfInBounds_toArray, List.set_cons_zero, List.set_cons_succ, i64_w, i32_w]
                                  rfl
                                refine pure_ (i := 16) (N := some 35) (v := ?_) (a' := ?_) #[true, true, true, true, true, true, true, true, true, true, true, true, true, true, true, true, true, false, false, false, false, false, false, false, false, false, false, false, false, false, false, false, false, false, false, false, false, false, false, false, false, false, false, false, false, false, false, false, false, false, false, false, false, false, false, false, false, false, false, false, false, false, false, false, false, false] rfl rfl (any_of HT_.out (by kernel_rfl)) (fun _ _ _ h => h) (Or.inl ⟨by rfl, ?_⟩) ?_ ?_
                                rotate_left
                                · intro w'
                                  go_simp
                                  with_reducible rfl
                                rotate_left
                                · simp only [Act.put, List.setIfInBounds_toArray, List.set_cons_zero, List.set_cons_succ, i64_w, i32_w]
                                  rfl
                                refine pure_ (i := 17) (N := some 36) (v := ?_) (a' := ?_) #[true, true, true, true, true, true, true, true, true, true, true, true, true, true, true, true, true, true, false, false, false, false, false, false, false, false, false, false, false, false, false, false, false, false, false, false, false, false, false, false, false, false, false, false, false, false, false, false, false, false, false, false, false, false, false, false, false, false, false, false, false, false, false, false, false, false] rfl rfl (any_of HT_.out (by kernel_rfl)) (fun _ _ _ h => h) (Or.inl ⟨by rfl, ?_⟩) ?_ ?_
                                rotate_left
                                · intro w'
                                  go_simp
                                  with_reducible rfl
                                rotate_left
                                · simp only [Act.put, List.setIfInBounds_toArray, List.set_cons_zero, List.set_cons_succ, i64_w, i32_w]
                                  rfl
                                refine take_ (i := 18) (N := some 37) (v := ?_) (a' := ?_) #[true, true, true, true, true, true, true, true, true, true, true, true, true, true, true, true, true, true, true, false, false, false, false, false, false, false, false, false, false, false, false, false, false, false, false, false, false, false, false, false, false, false, false, false, false, false, false, false, false, false, false, false, false, false, false, false, false, false, false, false, false, false, false, false, false, false] rfl rfl (take_ofW HT_.out HW_.out (by kernel_rfl)) (fun _ _ _ h => h) (Or.inl ⟨by rfl, ?_⟩) hHeld ?_ ?_
                                rotate_left
                                · rintro w' ⟨s0, s1, s2, s3⟩
                                  go_simp
                                  with_reducible rfl
                                rotate_left
                                · simp only [Act.put, List.setIfInBounds_toArray, List.set_cons_zero, List.set_cons_succ, i64_w, i32_w]
                                  rfl
                                refine one_ (i := 19) (N := some 38) #[true, true, true, true, true, true, true, true, true, true, true, true, true, true, true, true, true, true, true, true, false, false, false, false, false, false, false, false, false, false, false, false, false, false, false, false, false, false, false, false, false, false, false, false, false, false, false, false, false, false, false, false, false, false, false, false, false, false, false, false, false, false, false, false, false, false] rfl rfl (one_of HT_.out (by kernel_rfl)) (by decide) (fun K hK => ?_)
                                refine goes_ Try.func62 (by kernel_rfl) rfl #[.agg #[.int .u64 t1702, .int .u64 t1703]] (by rfl) rfl rfl (by (try simp only [List.map_toArray, List.map_cons, List.map_nil]); first | done | rfl | (simp only [List.length_drop, List.length_take]; rfl)) ?_
                                with_reducible refine (decimal_Digits.calls t1702 t1703 t1718 _ A11.out).mono ?_
                                rintro e w50 ⟨rfl, hb⟩
                                refine ⟨_, rfl, ?_⟩
                                have n0_ := Aside0.mk (blk_below (g := gb1705) (o := .cells #[.int .u64 t1702, .int .u64 t1703] 25 (0, 0)) (by (with_reducible repeat (first | refine blk_drewN ?_ _ | refine blk_drew ?_ | refine blk_alloc ?_ _)); exact BK1705.out) hb)
                                have n1_ := Aside0.mk (blk_below (g := gb1709) (o := .cells #[.int .u64 t1706, .int .u64 t1707] 25 (0, 0)) (by (with_reducible repeat (first | refine blk_drewN ?_ _ | refine blk_drew ?_ | refine blk_alloc ?_ _)); exact BK1709.out) hb)
                                have n2_ := Aside0.mk (blk_below (g := gb1713) (o := .cells #[.int .u64 t1710, .int .u64 t1711] 25 (0, 0)) (by (with_reducible repeat (first | refine blk_drewN ?_ _ | refine blk_drew ?_ | refine blk_alloc ?_ _)); exact BK1713.out) hb)
                                have n3_ := Aside0.mk (below_step (by repeat (first | (with_reducible first | exact HB.out | apply below_alloc | apply pw_below_drewN | apply below_drew1 | refine below_set ?_ GE1705.out | refine below_set ?_ GE1709.out | refine below_set ?_ GE1713.out) | exact HB.out)) hb)
                                clear BK1705
                                clear BK1709
                                clear BK1713
                                clear HB
                                have BK1705 := n0_
                                have BK1709 := n1_
                                have BK1713 := n2_
                                have HB := n3_
                                clear n0_ n1_ n2_ n3_
                                (try clear hb)
                                (try clear hb2)
                                (try clear hk)
                                (try clear hi)
                                refine hK.out _ _ ⟨(blk_cell BK1705.out 0).trans rfl, (blk_cell BK1705.out 1).trans rfl, (blk_cell BK1709.out 0).trans rfl, (blk_cell BK1709.out 1).trans rfl⟩ (fun hHeld => ?_)
                                clear hK K
                                refine norm_ (a' := ?_) ?_ ?_
                                rotate_left
                                · show Act.put _ (some 38) _ = _
                                  simp only [Act.put, List.setIfInBounds_toArray, List.set_cons_zero, List.set_cons_succ, i64_w, i32_w]
                                  rfl
                                refine pure_ (i := 20) (N := some 39) (v := ?_) (a' := ?_) #[true, true, true, true, true, true, true, true, true, true, true, true, true, true, true, true, true, true, true, true, true, false, false, false, false, false, false, false, false, false, false, false, false, false, false, false, false, false, false, false, false, false, false, false, false, false, false, false, false, false, false, false, false, false, false, false, false, false, false, false, false, false, false, false, false, false] rfl rfl (any_of HT_.out (by kernel_rfl)) (fun _ _ _ h => h) (Or.inl ⟨by rfl, ?_⟩) ?_ ?_
                                rotate_left
                                · intro w'
                                  go_simp
                                  with_reducible rfl
                                rotate_left
                                · simp only [Act.put, List.setIfInBounds_toArray, List.set_cons_zero, List.set_cons_succ, i64_w, i32_w]
                                  rfl
                                refine pure_ (i := 21) (N := some 40) (v := ?_) (a' := ?_) #[true, true, true, true, true, true, true, true, true, true, true, true, true, true, true, true, true, true, true, true, true, true, false, false, false, false, false, false, false, false, false, false, false, false, false, false, false, false, false, false, false, false, false, false, false, false, false, false, false, false, false, false, false, false, false, false, false, false, false, false, false, false, false, false, false, false] rfl rfl (any_of HT_.out (by kernel_rfl)) (fun _ _ _ h => h) (Or.inl ⟨by rfl, ?_⟩) ?_ ?_
                                rotate_left
                                · intro w'
                                  go_simp
                                  with_reducible rfl
                                rotate_left
                                · simp only [Act.put, List.setIfInBounds_toArray, List.set_cons_zero, List.set_cons_succ, i64_w, i32_w]
                                  rfl
                                refine pure_ (i := 22) (N := some 41) (v := ?_) (a' := ?_) #[true, true, true, true, true, true, true, true, true, true, true, true, true, true, true, true, true, true, true, true, true, true, true, false, false, false, false, false, false, false, false, false, false, false, false, false, false, false, false, false, false, false, false, false, false, false, false, false, false, false, false, false, false, false, false, false, false, false, false, false, false, false, false, false, false, false] rfl rfl (any_of HT_.out (by kernel_rfl)) (fun _ _ _ h => h) (Or.inl ⟨by rfl, ?_⟩) ?_ ?_
                                rotate_left
                                · intro w'
                                  go_simp
                                  with_reducible rfl
                                rotate_left
                                · simp only [Act.put, List.setIfInBounds_toArray, List.set_cons_zero, List.set_cons_succ, i64_w, i32_w]
                                  rfl
                                refine one_ (i := 23) (N := some 42) #[true, true, true, true, true, true, true, true, true, true, true, true, true, true, true, true, true, true, true, true, true, true, true, true, false, false, false, false, false, false, false, false, false, false, false, false, false, false, false, false, false, false, false, false, false, false, false, false, false, false, false, false, false, false, false, false, false, false, false, false, false, false, false, false, false, false] rfl rfl (one_of HT_.out (by kernel_rfl)) (by decide) (fun K hK => ?_)
                                refine goes_ Try.func103 (by kernel_rfl) rfl #[.string (⟨#[51, 52, 48, 50, 56, 50, 51, 54, 54, 57, 50, 48, 57, 51, 56, 52, 54, 51, 52, 54, 51, 51, 55, 52, 54, 48, 55, 52, 51, 49, 55, 54, 56, 50, 49, 49, 52, 53, 54]⟩ : ByteArray), .int .i64 10] (by rfl) rfl rfl (by (try simp only [List.map_toArray, List.map_cons, List.map_nil]); first | done | rfl | (simp only [List.length_drop, List.length_take]; rfl)) ?_
                                with_reducible refine (paymasterlaw02_refused.calls (⟨#[51, 52, 48, 50, 56, 50, 51, 54, 54, 57, 50, 48, 57, 51, 56, 52, 54, 51, 52, 54, 51, 51, 55, 52, 54, 48, 55, 52, 51, 49, 55, 54, 56, 50, 49, 49, 52, 53, 54]⟩ : ByteArray) 10 true _ A13.out).mono ?_
                                rintro e w51 ⟨rfl, hb⟩
                                refine ⟨_, rfl, ?_⟩
                                have n0_ := Aside0.mk (blk_below (g := gb1705) (o := .cells #[.int .u64 t1702, .int .u64 t1703] 25 (0, 0)) (by (with_reducible repeat (first | refine blk_drewN ?_ _ | refine blk_drew ?_ | refine blk_alloc ?_ _)); exact BK1705.out) hb)
                                have n1_ := Aside0.mk (blk_below (g := gb1709) (o := .cells #[.int .u64 t1706, .int .u64 t1707] 25 (0, 0)) (by (with_reducible repeat (first | refine blk_drewN ?_ _ | refine blk_drew ?_ | refine blk_alloc ?_ _)); exact BK1709.out) hb)
                                have n2_ := Aside0.mk (blk_below (g := gb1713) (o := .cells #[.int .u64 t1710, .int .u64 t1711] 25 (0, 0)) (by (with_reducible repeat (first | refine blk_drewN ?_ _ | refine blk_drew ?_ | refine blk_alloc ?_ _)); exact BK1713.out) hb)
                                have n3_ := Aside0.mk (below_step (by repeat (first | (with_reducible first | exact HB.out | apply below_alloc | apply pw_below_drewN | apply below_drew1 | refine below_set ?_ GE1705.out | refine below_set ?_ GE1709.out | refine below_set ?_ GE1713.out) | exact HB.out)) hb)
                                clear BK1705
                                clear BK1709
                                clear BK1713
                                clear HB
                                have BK1705 := n0_
                                have BK1709 := n1_
                                have BK1713 := n2_
                                have HB := n3_
                                clear n0_ n1_ n2_ n3_
                                (try clear hb)
                                (try clear hb2)
                                (try clear hk)
                                (try clear hi)
                                refine hK.out _ _ ⟨(blk_cell BK1705.out 0).trans rfl, (blk_cell BK1705.out 1).trans rfl, (blk_cell BK1709.out 0).trans rfl, (blk_cell BK1709.out 1).trans rfl⟩ (fun hHeld => ?_)
                                clear hK K
                                refine norm_ (a' := ?_) ?_ ?_
                                rotate_left
                                · show Act.put _ (some 42) _ = _
                                  simp only [Act.put, List.setIfInBounds_toArray, List.set_cons_zero, List.set_cons_succ, i64_w, i32_w]
                                  rfl
                                refine pure_ (i := 24) (N := some 43) (v := ?_) (a' := ?_) #[true, true, true, true, true, true, true, true, true, true, true, true, true, true, true, true, true, true, true, true, true, true, true, true, true, false, false, false, false, false, false, false, false, false, false, false, false, false, false, false, false, false, false, false, false, false, false, false, false, false, false, false, false, false, false, false, false, false, false, false, false, false, false, false, false, false] rfl rfl (any_of HT_.out (by kernel_rfl)) (fun _ _ _ h => h) (Or.inl ⟨by rfl, ?_⟩) ?_ ?_
                                rotate_left
                                · intro w'
                                  go_simp
                                  with_reducible rfl
                                rotate_left
                                · simp only [Act.put, List.setIfInBounds_toArray, List.set_cons_zero, List.set_cons_succ, i64_w, i32_w]
                                  rfl
                                refine pure_ (i := 25) (N := some 44) (v := ?_) (a' := ?_) #[true, true, true, true, true, true, true, true, true, true, true, true, true, true, true, true, true, true, true, true, true, true, true, true, true, true, false, false, false, false, false, false, false, false, false, false, false, false, false, false, false, false, false, false, false, false, false, false, false, false, false, false, false, false, false, false, false, false, false, false, false, false, false, false, false, false] rfl rfl (any_of HT_.out (by kernel_rfl)) (fun _ _ _ h => h) (Or.inl ⟨by rfl, ?_⟩) ?_ ?_
                                rotate_left
                                · intro w'
                                  go_simp
                                  with_reducible rfl
                                rotate_left
                                · simp only [Act.put, List.setIfInBounds_toArray, List.set_cons_zero, List.set_cons_succ, i64_w, i32_w]
                                  rfl
                                refine one_ (i := 26) (N := some 45) #[true, true, true, true, true, true, true, true, true, true, true, true, true, true, true, true, true, true, true, true, true, true, true, true, true, true, true, false, false, false, false, false, false, false, false, false, false, false, false, false, false, false, false, false, false, false, false, false, false, false, false, false, false, false, false, false, false, false, false, false, false, false, false, false, false, false] rfl rfl (one_of HT_.out (by kernel_rfl)) (by decide) (fun K hK => ?_)
                                refine goes_ Try.func103 (by kernel_rfl) rfl #[.string (⟨#[48, 48, 55]⟩ : ByteArray), .int .i64 20] (by rfl) rfl rfl (by (try simp only [List.map_toArray, List.map_cons, List.map_nil]); first | done | rfl | (simp only [List.length_drop, List.length_take]; rfl)) ?_
                                with_reducible refine (paymasterlaw02_refused.calls (⟨#[48, 48, 55]⟩ : ByteArray) 20 true _ A15.out).mono ?_
                                rintro e w52 ⟨rfl, hb⟩
                                refine ⟨_, rfl, ?_⟩
                                have n0_ := Aside0.mk (blk_below (g := gb1705) (o := .cells #[.int .u64 t1702, .int .u64 t1703] 25 (0, 0)) (by (with_reducible repeat (first | refine blk_drewN ?_ _ | refine blk_drew ?_ | refine blk_alloc ?_ _)); exact BK1705.out) hb)
                                have n1_ := Aside0.mk (blk_below (g := gb1709) (o := .cells #[.int .u64 t1706, .int .u64 t1707] 25 (0, 0)) (by (with_reducible repeat (first | refine blk_drewN ?_ _ | refine blk_drew ?_ | refine blk_alloc ?_ _)); exact BK1709.out) hb)
                                have n2_ := Aside0.mk (blk_below (g := gb1713) (o := .cells #[.int .u64 t1710, .int .u64 t1711] 25 (0, 0)) (by (with_reducible repeat (first | refine blk_drewN ?_ _ | refine blk_drew ?_ | refine blk_alloc ?_ _)); exact BK1713.out) hb)
                                have n3_ := Aside0.mk (below_step (by repeat (first | (with_reducible first | exact HB.out | apply below_alloc | apply pw_below_drewN | apply below_drew1 | refine below_set ?_ GE1705.out | refine below_set ?_ GE1709.out | refine below_set ?_ GE1713.out) | exact HB.out)) hb)
                                clear BK1705
                                clear BK1709
                                clear BK1713
                                clear HB
                                have BK1705 := n0_
                                have BK1709 := n1_
                                have BK1713 := n2_
                                have HB := n3_
                                clear n0_ n1_ n2_ n3_
                                (try clear hb)
                                (try clear hb2)
                                (try clear hk)
                                (try clear hi)
                                refine hK.out _ _ ⟨(blk_cell BK1705.out 0).trans rfl, (blk_cell BK1705.out 1).trans rfl, (blk_cell BK1709.out 0).trans rfl, (blk_cell BK1709.out 1).trans rfl⟩ (fun hHeld => ?_)
                                clear hK K
                                refine norm_ (a' := ?_) ?_ ?_
                                rotate_left
                                · show Act.put _ (some 45) _ = _
                                  simp only [Act.put, List.setIfInBounds_toArray, List.set_cons_zero, List.set_cons_succ, i64_w, i32_w]
                                  rfl
                                refine pure_ (i := 27) (N := some 46) (v := ?_) (a' := ?_) #[true, true, true, true, true, true, true, true, true, true, true, true, true, true, true, true, true, true, true, true, true, true, true, true, true, true, true, true, false, false, false, false, false, false, false, false, false, false, false, false, false, false, false, false, false, false, false, false, false, false, false, false, false, false, false, false, false, false, false, false, false, false, false, false, false, false] rfl rfl (any_of HT_.out (by kernel_rfl)) (fun _ _ _ h => h) (Or.inl ⟨by rfl, ?_⟩) ?_ ?_
                                rotate_left
                                · intro w'
                                  go_simp
                                  with_reducible rfl
                                rotate_left
                                · simp only [Act.put, List.setIfInBounds_toArray, List.set_cons_zero, List.set_cons_succ, i64_w, i32_w]
                                  rfl
                                refine pure_ (i := 28) (N := some 47) (v := ?_) (a' := ?_) #[true, true, true, true, true, true, true, true, true, true, true, true, true, true, true, true, true, true, true, true, true, true, true, true, true, true, true, true, true, false, false, false, false, false, false, false, false, false, false, false, false, false, false, false, false, false, false, false, false, false, false, false, false, false, false, false, false, false, false, false, false, false, false, false, false, false] rfl rfl (any_of HT_.out (by kernel_rfl)) (fun _ _ _ h => h) (Or.inl ⟨by rfl, ?_⟩) ?_ ?_
                                rotate_left
                                · intro w'
                                  go_simp
                                  with_reducible rfl
                                rotate_left
                                · simp only [Act.put, List.setIfInBounds_toArray, List.set_cons_zero, List.set_cons_succ, i64_w, i32_w]
                                  rfl
                                refine one_ (i := 29) (N := some 48) #[true, true, true, true, true, true, true, true, true, true, true, true, true, true, true, true, true, true, true, true, true, true, true, true, true, true, true, true, true, true, false, false, false, false, false, false, false, false, false, false, false, false, false, false, false, false, false, false, false, false, false, false, false, false, false, false, false, false, false, false, false, false, false, false, false, false] rfl rfl (one_of HT_.out (by kernel_rfl)) (by decide) (fun K hK => ?_)
                                refine goes_ Try.func103 (by kernel_rfl) rfl #[.string (⟨#[45, 49]⟩ : ByteArray), .int .i64 20] (by rfl) rfl rfl (by (try simp only [List.map_toArray, List.map_cons, List.map_nil]); first | done | rfl | (simp only [List.length_drop, List.length_take]; rfl)) ?_
                                with_reducible refine (paymasterlaw02_refused.calls (⟨#[45, 49]⟩ : ByteArray) 20 true _ A17.out).mono ?_
                                rintro e w53 ⟨rfl, hb⟩
                                refine ⟨_, rfl, ?_⟩
                                have n0_ := Aside0.mk (blk_below (g := gb1705) (o := .cells #[.int .u64 t1702, .int .u64 t1703] 25 (0, 0)) (by (with_reducible repeat (first | refine blk_drewN ?_ _ | refine blk_drew ?_ | refine blk_alloc ?_ _)); exact BK1705.out) hb)
                                have n1_ := Aside0.mk (blk_below (g := gb1709) (o := .cells #[.int .u64 t1706, .int .u64 t1707] 25 (0, 0)) (by (with_reducible repeat (first | refine blk_drewN ?_ _ | refine blk_drew ?_ | refine blk_alloc ?_ _)); exact BK1709.out) hb)
                                have n2_ := Aside0.mk (blk_below (g := gb1713) (o := .cells #[.int .u64 t1710, .int .u64 t1711] 25 (0, 0)) (by (with_reducible repeat (first | refine blk_drewN ?_ _ | refine blk_drew ?_ | refine blk_alloc ?_ _)); exact BK1713.out) hb)
                                have n3_ := Aside0.mk (below_step (by repeat (first | (with_reducible first | exact HB.out | apply below_alloc | apply pw_below_drewN | apply below_drew1 | refine below_set ?_ GE1705.out | refine below_set ?_ GE1709.out | refine below_set ?_ GE1713.out) | exact HB.out)) hb)
                                clear BK1705
                                clear BK1709
                                clear BK1713
                                clear HB
                                have BK1705 := n0_
                                have BK1709 := n1_
                                have BK1713 := n2_
                                have HB := n3_
                                clear n0_ n1_ n2_ n3_
                                (try clear hb)
                                (try clear hb2)
                                (try clear hk)
                                (try clear hi)
                                refine hK.out _ _ ⟨(blk_cell BK1705.out 0).trans rfl, (blk_cell BK1705.out 1).trans rfl, (blk_cell BK1709.out 0).trans rfl, (blk_cell BK1709.out 1).trans rfl⟩ (fun hHeld => ?_)
                                clear hK K
                                refine norm_ (a' := ?_) ?_ ?_
                                rotate_left
                                · show Act.put _ (some 48) _ = _
                                  simp only [Act.put, List.setIfInBounds_toArray, List.set_cons_zero, List.set_cons_succ, i64_w, i32_w]
                                  rfl
                                refine pure_ (i := 30) (N := some 49) (v := ?_) (a' := ?_) #[true, true, true, true, true, true, true, true, true, true, true, true, true, true, true, true, true, true, true, true, true, true, true, true, true, true, true, true, true, true, true, false, false, false, false, false, false, false, false, false, false, false, false, false, false, false, false, false, false, false, false, false, false, false, false, false, false, false, false, false, false, false, false, false, false, false] rfl rfl (any_of HT_.out (by kernel_rfl)) (fun _ _ _ h => h) (Or.inl ⟨by rfl, ?_⟩) ?_ ?_
                                rotate_left
                                · intro w'
                                  go_simp
                                  with_reducible rfl
                                rotate_left
                                · simp only [Act.put, List.setIfInBounds_toArray, List.set_cons_zero, List.set_cons_succ, i64_w, i32_w]
                                  rfl
                                refine pure_ (i := 31) (N := some 50) (v := ?_) (a' := ?_) #[true, true, true, true, true, true, true, true, true, true, true, true, true, true, true, true, true, true, true, true, true, true, true, true, true, true, true, true, true, true, true, true, false, false, false, false, false, false, false, false, false, false, false, false, false, false, false, false, false, false, false, false, false, false, false, false, false, false, false, false, false, false, false, false, false, false] rfl rfl (any_of HT_.out (by kernel_rfl)) (fun _ _ _ h => h) (Or.inl ⟨by rfl, ?_⟩) ?_ ?_
                                rotate_left
                                · intro w'
                                  go_simp
                                  with_reducible rfl
                                rotate_left
                                · simp only [Act.put, List.setIfInBounds_toArray, List.set_cons_zero, List.set_cons_succ, i64_w, i32_w]
                                  rfl
                                refine one_ (i := 32) (N := some 51) #[true, true, true, true, true, true, true, true, true, true, true, true, true, true, true, true, true, true, true, true, true, true, true, true, true, true, true, true, true, true, true, true, true, false, false, false, false, false, false, false, false, false, false, false, false, false, false, false, false, false, false, false, false, false, false, false, false, false, false, false, false, false, false, false, false, false] rfl rfl (one_of HT_.out (by kernel_rfl)) (by decide) (fun K hK => ?_)
                                refine goes_ Try.func103 (by kernel_rfl) rfl #[.string (⟨#[49, 32]⟩ : ByteArray), .int .i64 20] (by rfl) rfl rfl (by (try simp only [List.map_toArray, List.map_cons, List.map_nil]); first | done | rfl | (simp only [List.length_drop, List.length_take]; rfl)) ?_
                                with_reducible refine (paymasterlaw02_refused.calls (⟨#[49, 32]⟩ : ByteArray) 20 true _ A19.out).mono ?_
                                rintro e w54 ⟨rfl, hb⟩
                                refine ⟨_, rfl, ?_⟩
                                have n0_ := Aside0.mk (blk_below (g := gb1705) (o := .cells #[.int .u64 t1702, .int .u64 t1703] 25 (0, 0)) (by (with_reducible repeat (first | refine blk_drewN ?_ _ | refine blk_drew ?_ | refine blk_alloc ?_ _)); exact BK1705.out) hb)
                                have n1_ := Aside0.mk (blk_below (g := gb1709) (o := .cells #[.int .u64 t1706, .int .u64 t1707] 25 (0, 0)) (by (with_reducible repeat (first | refine blk_drewN ?_ _ | refine blk_drew ?_ | refine blk_alloc ?_ _)); exact BK1709.out) hb)
                                have n2_ := Aside0.mk (blk_below (g := gb1713) (o := .cells #[.int .u64 t1710, .int .u64 t1711] 25 (0, 0)) (by (with_reducible repeat (first | refine blk_drewN ?_ _ | refine blk_drew ?_ | refine blk_alloc ?_ _)); exact BK1713.out) hb)
                                have n3_ := Aside0.mk (below_step (by repeat (first | (with_reducible first | exact HB.out | apply below_alloc | apply pw_below_drewN | apply below_drew1 | refine below_set ?_ GE1705.out | refine below_set ?_ GE1709.out | refine below_set ?_ GE1713.out) | exact HB.out)) hb)
                                clear BK1705
                                clear BK1709
                                clear BK1713
                                clear HB
                                have BK1705 := n0_
                                have BK1709 := n1_
                                have BK1713 := n2_
                                have HB := n3_
                                clear n0_ n1_ n2_ n3_
                                (try clear hb)
                                (try clear hb2)
                                (try clear hk)
                                (try clear hi)
                                refine hK.out _ _ ⟨(blk_cell BK1705.out 0).trans rfl, (blk_cell BK1705.out 1).trans rfl, (blk_cell BK1709.out 0).trans rfl, (blk_cell BK1709.out 1).trans rfl⟩ (fun hHeld => ?_)
                                clear hK K
                                refine norm_ (a' := ?_) ?_ ?_
                                rotate_left
                                · show Act.put _ (some 51) _ = _
                                  simp only [Act.put, List.setIfInBounds_toArray, List.set_cons_zero, List.set_cons_succ, i64_w, i32_w]
                                  rfl
                                refine pure_ (i := 33) (N := some 52) (v := ?_) (a' := ?_) #[true, true, true, true, true, true, true, true, true, true, true, true, true, true, true, true, true, true, true, true, true, true, true, true, true, true, true, true, true, true, true, true, true, true, false, false, false, false, false, false, false, false, false, false, false, false, false, false, false, false, false, false, false, false, false, false, false, false, false, false, false, false, false, false, false, false] rfl rfl (any_of HT_.out (by kernel_rfl)) (fun _ _ _ h => h) (Or.inl ⟨by rfl, ?_⟩) ?_ ?_
                                rotate_left
                                · intro w'
                                  go_simp
                                  with_reducible rfl
                                rotate_left
                                · simp only [Act.put, List.setIfInBounds_toArray, List.set_cons_zero, List.set_cons_succ, i64_w, i32_w]
                                  rfl
                                refine pure_ (i := 34) (N := some 53) (v := ?_) (a' := ?_) #[true, true, true, true, true, true, true, true, true, true, true, true, true, true, true, true, true, true, true, true, true, true, true, true, true, true, true, true, true, true, true, true, true, true, true, false, false, false, false, false, false, false, false, false, false, false, false, false, false, false, false, false, false, false, false, false, false, false, false, false, false, false, false, false, false, false] rfl rfl (any_of HT_.out (by kernel_rfl)) (fun _ _ _ h => h) (Or.inl ⟨by rfl, ?_⟩) ?_ ?_
                                rotate_left
                                · intro w'
                                  go_simp
                                  with_reducible rfl
                                rotate_left
                                · simp only [Act.put, List.setIfInBounds_toArray, List.set_cons_zero, List.set_cons_succ, i64_w, i32_w]
                                  rfl
                                refine one_ (i := 35) (N := some 54) #[true, true, true, true, true, true, true, true, true, true, true, true, true, true, true, true, true, true, true, true, true, true, true, true, true, true, true, true, true, true, true, true, true, true, true, true, false, false, false, false, false, false, false, false, false, false, false, false, false, false, false, false, false, false, false, false, false, false, false, false, false, false, false, false, false, false] rfl rfl (one_of HT_.out (by kernel_rfl)) (by decide) (fun K hK => ?_)
                                refine goes_ Try.func103 (by kernel_rfl) rfl #[.string (⟨#[]⟩ : ByteArray), .int .i64 20] (by rfl) rfl rfl (by (try simp only [List.map_toArray, List.map_cons, List.map_nil]); first | done | rfl | (simp only [List.length_drop, List.length_take]; rfl)) ?_
                                with_reducible refine (paymasterlaw02_refused.calls (⟨#[]⟩ : ByteArray) 20 true _ A21.out).mono ?_
                                rintro e w55 ⟨rfl, hb⟩
                                refine ⟨_, rfl, ?_⟩
                                have n0_ := Aside0.mk (blk_below (g := gb1705) (o := .cells #[.int .u64 t1702, .int .u64 t1703] 25 (0, 0)) (by (with_reducible repeat (first | refine blk_drewN ?_ _ | refine blk_drew ?_ | refine blk_alloc ?_ _)); exact BK1705.out) hb)
                                have n1_ := Aside0.mk (blk_below (g := gb1709) (o := .cells #[.int .u64 t1706, .int .u64 t1707] 25 (0, 0)) (by (with_reducible repeat (first | refine blk_drewN ?_ _ | refine blk_drew ?_ | refine blk_alloc ?_ _)); exact BK1709.out) hb)
                                have n2_ := Aside0.mk (blk_below (g := gb1713) (o := .cells #[.int .u64 t1710, .int .u64 t1711] 25 (0, 0)) (by (with_reducible repeat (first | refine blk_drewN ?_ _ | refine blk_drew ?_ | refine blk_alloc ?_ _)); exact BK1713.out) hb)
                                have n3_ := Aside0.mk (below_step (by repeat (first | (with_reducible first | exact HB.out | apply below_alloc | apply pw_below_drewN | apply below_drew1 | refine below_set ?_ GE1705.out | refine below_set ?_ GE1709.out | refine below_set ?_ GE1713.out) | exact HB.out)) hb)
                                clear BK1705
                                clear BK1709
                                clear BK1713
                                clear HB
                                have BK1705 := n0_
                                have BK1709 := n1_
                                have BK1713 := n2_
                                have HB := n3_
                                clear n0_ n1_ n2_ n3_
                                (try clear hb)
                                (try clear hb2)
                                (try clear hk)
                                (try clear hi)
                                refine hK.out _ _ ⟨(blk_cell BK1705.out 0).trans rfl, (blk_cell BK1705.out 1).trans rfl, (blk_cell BK1709.out 0).trans rfl, (blk_cell BK1709.out 1).trans rfl⟩ (fun hHeld => ?_)
                                clear hK K
                                refine norm_ (a' := ?_) ?_ ?_
                                rotate_left
                                · show Act.put _ (some 54) _ = _
                                  simp only [Act.put, List.setIfInBounds_toArray, List.set_cons_zero, List.set_cons_succ, i64_w, i32_w]
                                  rfl
                                refine pure_ (i := 36) (N := some 55) (v := ?_) (a' := ?_) #[true, true, true, true, true, true, true, true, true, true, true, true, true, true, true, true, true, true, true, true, true, true, true, true, true, true, true, true, true, true, true, true, true, true, true, true, true, false, false, false, false, false, false, false, false, false, false, false, false, false, false, false, false, false, false, false, false, false, false, false, false, false, false, false, false, false] rfl rfl (any_of HT_.out (by kernel_rfl)) (fun _ _ _ h => h) (Or.inl ⟨by rfl, ?_⟩) ?_ ?_
                                rotate_left
                                · intro w'
                                  go_simp
                                  with_reducible rfl
                                rotate_left
                                · simp only [Act.put, List.setIfInBounds_toArray, List.set_cons_zero, List.set_cons_succ, i64_w, i32_w]
                                  rfl
                                refine pure_ (i := 37) (N := some 56) (v := ?_) (a' := ?_) #[true, true, true, true, true, true, true, true, true, true, true, true, true, true, true, true, true, true, true, true, true, true, true, true, true, true, true, true, true, true, true, true, true, true, true, true, true, true, false, false, false, false, false, false, false, false, false, false, false, false, false, false, false, false, false, false, false, false, false, false, false, false, false, false, false, false] rfl rfl (any_of HT_.out (by kernel_rfl)) (fun _ _ _ h => h) (Or.inl ⟨by rfl, ?_⟩) ?_ ?_
                                rotate_left
                                · intro w'
                                  go_simp
                                  with_reducible rfl
                                rotate_left
                                · simp only [Act.put, List.setIfInBounds_toArray, List.set_cons_zero, List.set_cons_succ, i64_w, i32_w]
                                  rfl
                                refine one_ (i := 38) (N := some 57) #[true, true, true, true, true, true, true, true, true, true, true, true, true, true, true, true, true, true, true, true, true, true, true, true, true, true, true, true, true, true, true, true, true, true, true, true, true, true, true, false, false, false, false, false, false, false, false, false, false, false, false, false, false, false, false, false, false, false, false, false, false, false, false, false, false, false] rfl rfl (one_of HT_.out (by kernel_rfl)) (by decide) (fun K hK => ?_)
                                refine goes_ Try.func51 (by kernel_rfl) rfl #[.int .u64 1234567] (by rfl) rfl rfl (by (try simp only [List.map_toArray, List.map_cons, List.map_nil]); first | done | rfl | (simp only [List.length_drop, List.length_take]; rfl)) ?_
                                with_reducible refine (u128_Of.calls 1234567 t1724 t1725 _ A23.out).mono ?_
                                rintro e w56 ⟨rfl, hb⟩
                                refine ⟨_, rfl, ?_⟩
                                have n0_ := Aside0.mk (blk_below (g := gb1705) (o := .cells #[.int .u64 t1702, .int .u64 t1703] 25 (0, 0)) (by (with_reducible repeat (first | refine blk_drewN ?_ _ | refine blk_drew ?_ | refine blk_alloc ?_ _)); exact BK1705.out) hb)
                                have n1_ := Aside0.mk (blk_below (g := gb1709) (o := .cells #[.int .u64 t1706, .int .u64 t1707] 25 (0, 0)) (by (with_reducible repeat (first | refine blk_drewN ?_ _ | refine blk_drew ?_ | refine blk_alloc ?_ _)); exact BK1709.out) hb)
                                have n2_ := Aside0.mk (blk_below (g := gb1713) (o := .cells #[.int .u64 t1710, .int .u64 t1711] 25 (0, 0)) (by (with_reducible repeat (first | refine blk_drewN ?_ _ | refine blk_drew ?_ | refine blk_alloc ?_ _)); exact BK1713.out) hb)
                                have n3_ := Aside0.mk (below_step (by repeat (first | (with_reducible first | exact HB.out | apply below_alloc | apply pw_below_drewN | apply below_drew1 | refine below_set ?_ GE1705.out | refine below_set ?_ GE1709.out | refine below_set ?_ GE1713.out) | exact HB.out)) hb)
                                clear BK1705
                                clear BK1709
                                clear BK1713
                                clear HB
                                have BK1705 := n0_
                                have BK1709 := n1_
                                have BK1713 := n2_
                                have HB := n3_
                                clear n0_ n1_ n2_ n3_
                                (try clear hb)
                                (try clear hb2)
                                (try clear hk)
                                (try clear hi)
                                refine hK.out _ _ ⟨(blk_cell BK1705.out 0).trans rfl, (blk_cell BK1705.out 1).trans rfl, (blk_cell BK1709.out 0).trans rfl, (blk_cell BK1709.out 1).trans rfl⟩ (fun hHeld => ?_)
                                clear hK K
                                refine norm_ (a' := ?_) ?_ ?_
                                rotate_left
                                · show Act.put _ (some 57) _ = _
                                  simp only [Act.put, List.setIfInBounds_toArray, List.set_cons_zero, List.set_cons_succ, i64_w, i32_w]
                                  rfl
                                refine one_ (i := 39) (N := some 58) #[true, true, true, true, true, true, true, true, true, true, true, true, true, true, true, true, true, true, true, true, true, true, true, true, true, true, true, true, true, true, true, true, true, true, true, true, true, true, true, true, false, false, false, false, false, false, false, false, false, false, false, false, false, false, false, false, false, false, false, false, false, false, false, false, false, false] rfl rfl (one_of HT_.out (by kernel_rfl)) (by decide) (fun K hK => ?_)
                                refine goes_ Try.func79 (by kernel_rfl) rfl #[.agg #[.int .u64 t1724, .int .u64 t1725]] (by rfl) rfl rfl (by (try simp only [List.map_toArray, List.map_cons, List.map_nil]); first | done | rfl | (simp only [List.length_drop, List.length_take]; rfl)) ?_
                                with_reducible refine (decimal_Grouped.calls t1724 t1725 t1726 _ A24.out).mono ?_
                                rintro e w57 ⟨rfl, hb⟩
                                refine ⟨_, rfl, ?_⟩
                                have n0_ := Aside0.mk (blk_below (g := gb1705) (o := .cells #[.int .u64 t1702, .int .u64 t1703] 25 (0, 0)) (by (with_reducible repeat (first | refine blk_drewN ?_ _ | refine blk_drew ?_ | refine blk_alloc ?_ _)); exact BK1705.out) hb)
                                have n1_ := Aside0.mk (blk_below (g := gb1709) (o := .cells #[.int .u64 t1706, .int .u64 t1707] 25 (0, 0)) (by (with_reducible repeat (first | refine blk_drewN ?_ _ | refine blk_drew ?_ | refine blk_alloc ?_ _)); exact BK1709.out) hb)
                                have n2_ := Aside0.mk (blk_below (g := gb1713) (o := .cells #[.int .u64 t1710, .int .u64 t1711] 25 (0, 0)) (by (with_reducible repeat (first | refine blk_drewN ?_ _ | refine blk_drew ?_ | refine blk_alloc ?_ _)); exact BK1713.out) hb)
                                have n3_ := Aside0.mk (below_step (by repeat (first | (with_reducible first | exact HB.out | apply below_alloc | apply pw_below_drewN | apply below_drew1 | refine below_set ?_ GE1705.out | refine below_set ?_ GE1709.out | refine below_set ?_ GE1713.out) | exact HB.out)) hb)
                                clear BK1705
                                clear BK1709
                                clear BK1713
                                clear HB
                                have BK1705 := n0_
                                have BK1709 := n1_
                                have BK1713 := n2_
                                have HB := n3_
                                clear n0_ n1_ n2_ n3_
                                (try clear hb)
                                (try clear hb2)
                                (try clear hk)
                                (try clear hi)
                                refine hK.out _ _ ⟨(blk_cell BK1705.out 0).trans rfl, (blk_cell BK1705.out 1).trans rfl, (blk_cell BK1709.out 0).trans rfl, (blk_cell BK1709.out 1).trans rfl⟩ (fun hHeld => ?_)
                                clear hK K
                                refine norm_ (a' := ?_) ?_ ?_
                                rotate_left
                                · show Act.put _ (some 58) _ = _
                                  simp only [Act.put, List.setIfInBounds_toArray, List.set_cons_zero, List.set_cons_succ, i64_w, i32_w]
                                  rfl
                                refine pure_ (i := 40) (N := some 59) (v := ?_) (a' := ?_) #[true, true, true, true, true, true, true, true, true, true, true, true, true, true, true, true, true, true, true, true, true, true, true, true, true, true, true, true, true, true, true, true, true, true, true, true, true, true, true, true, true, false, false, false, false, false, false, false, false, false, false, false, false, false, false, false, false, false, false, false, false, false, false, false, false, false] rfl rfl (any_of HT_.out (by kernel_rfl)) (fun _ _ _ h => h) (Or.inl ⟨by rfl, ?_⟩) ?_ ?_
                                rotate_left
                                · intro w'
                                  go_simp
                                  with_reducible rfl
                                rotate_left
                                · simp only [Act.put, List.setIfInBounds_toArray, List.set_cons_zero, List.set_cons_succ, i64_w, i32_w]
                                  rfl
                                refine pure_ (i := 41) (N := some 60) (v := ?_) (a' := ?_) #[true, true, true, true, true, true, true, true, true, true, true, true, true, true, true, true, true, true, true, true, true, true, true, true, true, true, true, true, true, true, true, true, true, true, true, true, true, true, true, true, true, true, false, false, false, false, false, false, false, false, false, false, false, false, false, false, false, false, false, false, false, false, false, false, false, false] rfl rfl (any_of HT_.out (by kernel_rfl)) (fun _ _ _ h => h) (Or.inl ⟨by rfl, ?_⟩) ?_ ?_
                                rotate_left
                                · intro w'
                                  go_simp
                                  with_reducible rfl
                                rotate_left
                                · simp only [Act.put, List.setIfInBounds_toArray, List.set_cons_zero, List.set_cons_succ, i64_w, i32_w]
                                  rfl
                                refine pure_ (i := 42) (N := some 61) (v := ?_) (a' := ?_) #[true, true, true, true, true, true, true, true, true, true, true, true, true, true, true, true, true, true, true, true, true, true, true, true, true, true, true, true, true, true, true, true, true, true, true, true, true, true, true, true, true, true, true, false, false, false, false, false, false, false, false, false, false, false, false, false, false, false, false, false, false, false, false, false, false, false] rfl rfl (any_of HT_.out (by kernel_rfl)) (fun _ _ _ h => h) (Or.inl ⟨by rfl, ?_⟩) ?_ ?_
                                rotate_left
                                · intro w'
                                  go_simp
                                  with_reducible rfl
                                rotate_left
                                · simp only [Act.put, List.setIfInBounds_toArray, List.set_cons_zero, List.set_cons_succ, i64_w, i32_w]
                                  rfl
                                refine pure_ (i := 43) (N := some 62) (v := ?_) (a' := ?_) #[true, true, true, true, true, true, true, true, true, true, true, true, true, true, true, true, true, true, true, true, true, true, true, true, true, true, true, true, true, true, true, true, true, true, true, true, true, true, true, true, true, true, true, true, false, false, false, false, false, false, false, false, false, false, false, false, false, false, false, false, false, false, false, false, false, false] rfl rfl (any_of HT_.out (by kernel_rfl)) (fun _ _ _ h => h) (Or.inl ⟨by rfl, ?_⟩) ?_ ?_
                                rotate_left
                                · intro w'
                                  go_simp
                                  with_reducible rfl
                                rotate_left
                                · simp only [Act.put, List.setIfInBounds_toArray, List.set_cons_zero, List.set_cons_succ, i64_w, i32_w]
                                  rfl
                                refine pure_ (i := 44) (N := some 63) (v := ?_) (a' := ?_) #[true, true, true, true, true, true, true, true, true, true, true, true, true, true, true, true, true, true, true, true, true, true, true, true, true, true, true, true, true, true, true, true, true, true, true, true, true, true, true, true, true, true, true, true, true, false, false, false, false, false, false, false, false, false, false, false, false, false, false, false, false, false, false, false, false, false] rfl rfl (any_of HT_.out (by kernel_rfl)) (fun _ _ _ h => h) (Or.inl ⟨by rfl, ?_⟩) ?_ ?_
                                rotate_left
                                · intro w'
                                  go_simp
                                  with_reducible rfl
                                rotate_left
                                · simp only [Act.put, List.setIfInBounds_toArray, List.set_cons_zero, List.set_cons_succ, i64_w, i32_w]
                                  rfl
                                refine pure_ (i := 45) (N := some 64) (v := ?_) (a' := ?_) #[true, true, true, true, true, true, true, true, true, true, true, true, true, true, true, true, true, true, true, true, true, true, true, true, true, true, true, true, true, true, true, true, true, true, true, true, true, true, true, true, true, true, true, true, true, true, false, false, false, false, false, false, false, false, false, false, false, false, false, false, false, false, false, false, false, false] rfl rfl (any_of HT_.out (by kernel_rfl)) (fun _ _ _ h => h) (Or.inl ⟨by rfl, ?_⟩) ?_ ?_
                                rotate_left
                                · intro w'
                                  go_simp
                                  with_reducible rfl
                                rotate_left
                                · simp only [Act.put, List.setIfInBounds_toArray, List.set_cons_zero, List.set_cons_succ, i64_w, i32_w]
                                  rfl
                                refine pure_ (i := 46) (N := some 65) (v := ?_) (a' := ?_) #[true, true, true, true, true, true, true, true, true, true, true, true, true, true, true, true, true, true, true, true, true, true, true, true, true, true, true, true, true, true, true, true, true, true, true, true, true, true, true, true, true, true, true, true, true, true, true, false, false, false, false, false, false, false, false, false, false, false, false, false, false, false, false, false, false, false] rfl rfl (any_of HT_.out (by kernel_rfl)) (fun _ _ _ h => h) (Or.inl ⟨by rfl, ?_⟩) ?_ ?_
                                rotate_left
                                · intro w'
                                  go_simp
                                  with_reducible rfl
                                rotate_left
                                · simp only [Act.put, List.setIfInBounds_toArray, List.set_cons_zero, List.set_cons_succ, i64_w, i32_w]
                                  rfl
                                refine take_ (i := 47) (N := some 66) (v := ?_) (a' := ?_) #[true, true, true, true, true, true, true, true, true, true, true, true, true, true, true, true, true, true, true, true, true, true, true, true, true, true, true, true, true, true, true, true, true, true, true, true, true, true, true, true, true, true, true, true, true, true, true, true, false, false, false, false, false, false, false, false, false, false, false, false, false, false, false, false, false, false] rfl rfl (take_ofW HT_.out HW_.out (by kernel_rfl)) (fun _ _ _ h => h) (Or.inl ⟨by rfl, ?_⟩) hHeld ?_ ?_
                                rotate_left
                                · rintro w' ⟨s0, s1, s2, s3⟩
                                  go_simp
                                  with_reducible rfl
                                rotate_left
                                · simp only [Act.put, List.setIfInBounds_toArray, List.set_cons_zero, List.set_cons_succ, i64_w, i32_w]
                                  rfl
                                refine one_ (i := 48) (N := some 67) #[true, true, true, true, true, true, true, true, true, true, true, true, true, true, true, true, true, true, true, true, true, true, true, true, true, true, true, true, true, true, true, true, true, true, true, true, true, true, true, true, true, true, true, true, true, true, true, true, true, false, false, false, false, false, false, false, false, false, false, false, false, false, false, false, false, false] rfl rfl (one_of HT_.out (by kernel_rfl)) (by decide) (fun K hK => ?_)
                                refine goes_ Try.func62 (by kernel_rfl) rfl #[.agg #[.int .u64 t1706, .int .u64 t1707]] (by rfl) rfl rfl (by (try simp only [List.map_toArray, List.map_cons, List.map_nil]); first | done | rfl | (simp only [List.length_drop, List.length_take]; rfl)) ?_
                                with_reducible refine (decimal_Digits.calls t1706 t1707 t1727 _ A27.out).mono ?_
                                rintro e w58 ⟨rfl, hb⟩
                                refine ⟨_, rfl, ?_⟩
                                have n0_ := Aside0.mk (blk_below (g := gb1705) (o := .cells #[.int .u64 t1702, .int .u64 t1703] 25 (0, 0)) (by (with_reducible repeat (first | refine blk_drewN ?_ _ | refine blk_drew ?_ | refine blk_alloc ?_ _)); exact BK1705.out) hb)
                                have n1_ := Aside0.mk (blk_below (g := gb1709) (o := .cells #[.int .u64 t1706, .int .u64 t1707] 25 (0, 0)) (by (with_reducible repeat (first | refine blk_drewN ?_ _ | refine blk_drew ?_ | refine blk_alloc ?_ _)); exact BK1709.out) hb)
                                have n2_ := Aside0.mk (blk_below (g := gb1713) (o := .cells #[.int .u64 t1710, .int .u64 t1711] 25 (0, 0)) (by (with_reducible repeat (first | refine blk_drewN ?_ _ | refine blk_drew ?_ | refine blk_alloc ?_ _)); exact BK1713.out) hb)
                                have n3_ := Aside0.mk (below_step (by repeat (first | (with_reducible first | exact HB.out | apply below_alloc | apply pw_below_drewN | apply below_drew1 | refine below_set ?_ GE1705.out | refine below_set ?_ GE1709.out | refine below_set ?_ GE1713.out) | exact HB.out)) hb)
                                clear BK1705
                                clear BK1709
                                clear BK1713
                                clear HB
                                have BK1705 := n0_
                                have BK1709 := n1_
                                have BK1713 := n2_
                                have HB := n3_
                                clear n0_ n1_ n2_ n3_
                                (try clear hb)
                                (try clear hb2)
                                (try clear hk)
                                (try clear hi)
                                refine hK.out _ _ ⟨(blk_cell BK1705.out 0).trans rfl, (blk_cell BK1705.out 1).trans rfl, (blk_cell BK1709.out 0).trans rfl, (blk_cell BK1709.out 1).trans rfl⟩ (fun hHeld => ?_)
                                clear hK K
                                refine norm_ (a' := ?_) ?_ ?_
                                rotate_left
                                · show Act.put _ (some 67) _ = _
                                  simp only [Act.put, List.setIfInBounds_toArray, List.set_cons_zero, List.set_cons_succ, i64_w, i32_w]
                                  rfl
                                refine pure_ (i := 49) (N := some 68) (v := ?_) (a' := ?_) #[true, true, true, true, true, true, true, true, true, true, true, true, true, true, true, true, true, true, true, true, true, true, true, true, true, true, true, true, true, true, true, true, true, true, true, true, true, true, true, true, true, true, true, true, true, true, true, true, true, true, false, false, false, false, false, false, false, false, false, false, false, false, false, false, false, false] rfl rfl (any_of HT_.out (by kernel_rfl)) (fun _ _ _ h => h) (Or.inl ⟨by rfl, ?_⟩) ?_ ?_
                                rotate_left
                                · intro w'
                                  go_simp
                                  with_reducible rfl
                                rotate_left
                                · simp only [Act.put, List.setIfInBounds_toArray, List.set_cons_zero, List.set_cons_succ, i64_w, i32_w]
                                  rfl
                                refine pure_ (i := 50) (N := some 69) (v := ?_) (a' := ?_) #[true, true, true, true, true, true, true, true, true, true, true, true, true, true, true, true, true, true, true, true, true, true, true, true, true, true, true, true, true, true, true, true, true, true, true, true, true, true, true, true, true, true, true, true, true, true, true, true, true, true, true, false, false, false, false, false, false, false, false, false, false, false, false, false, false, false] rfl rfl (any_of HT_.out (by kernel_rfl)) (fun _ _ _ h => h) (Or.inl ⟨by rfl, ?_⟩) ?_ ?_
                                rotate_left
                                · intro w'
                                  go_simp
                                  with_reducible rfl
                                rotate_left
                                · simp only [Act.put, List.setIfInBounds_toArray, List.set_cons_zero, List.set_cons_succ, i64_w, i32_w]
                                  rfl
                                refine pure_ (i := 51) (N := some 70) (v := ?_) (a' := ?_) #[true, true, true, true, true, true, true, true, true, true, true, true, true, true, true, true, true, true, true, true, true, true, true, true, true, true, true, true, true, true, true, true, true, true, true, true, true, true, true, true, true, true, true, true, true, true, true, true, true, true, true, true, false, false, false, false, false, false, false, false, false, false, false, false, false, false] rfl rfl (any_of HT_.out (by kernel_rfl)) (fun _ _ _ h => h) (Or.inl ⟨by rfl, ?_⟩) ?_ ?_
                                rotate_left
                                · intro w'
                                  go_simp
                                  with_reducible rfl
                                rotate_left
                                · simp only [Act.put, List.setIfInBounds_toArray, List.set_cons_zero, List.set_cons_succ, i64_w, i32_w]
                                  rfl
                                refine take_ (i := 52) (N := some 71) (v := ?_) (a' := ?_) #[true, true, true, true, true, true, true, true, true, true, true, true, true, true, true, true, true, true, true, true, true, true, true, true, true, true, true, true, true, true, true, true, true, true, true, true, true, true, true, true, true, true, true, true, true, true, true, true, true, true, true, true, true, false, false, false, false, false, false, false, false, false, false, false, false, false] rfl rfl (take_ofW HT_.out HW_.out (by kernel_rfl)) (fun _ _ _ h => h) (Or.inl ⟨by rfl, ?_⟩) hHeld ?_ ?_
                                rotate_left
                                · rintro w' ⟨s0, s1, s2, s3⟩
                                  go_simp
                                  with_reducible rfl
                                rotate_left
                                · simp only [Act.put, List.setIfInBounds_toArray, List.set_cons_zero, List.set_cons_succ, i64_w, i32_w]
                                  rfl
                                refine one_ (i := 53) (N := some 72) #[true, true, true, true, true, true, true, true, true, true, true, true, true, true, true, true, true, true, true, true, true, true, true, true, true, true, true, true, true, true, true, true, true, true, true, true, true, true, true, true, true, true, true, true, true, true, true, true, true, true, true, true, true, true, false, false, false, false, false, false, false, false, false, false, false, false] rfl rfl (one_of HT_.out (by kernel_rfl)) (by decide) (fun K hK => ?_)
                                refine goes_ Try.func64 (by kernel_rfl) rfl #[.agg #[.int .u64 t1706, .int .u64 t1707], .int .i64 38] (by rfl) rfl rfl (by (try simp only [List.map_toArray, List.map_cons, List.map_nil]); first | done | rfl | (simp only [List.length_drop, List.length_take]; rfl)) ?_
                                with_reducible refine (decimal_Digit.calls t1706 t1707 38 t1728 _ A29.out).mono ?_
                                rintro e w59 ⟨rfl, hb⟩
                                refine ⟨_, rfl, ?_⟩
                                have n0_ := Aside0.mk (blk_below (g := gb1705) (o := .cells #[.int .u64 t1702, .int .u64 t1703] 25 (0, 0)) (by (with_reducible repeat (first | refine blk_drewN ?_ _ | refine blk_drew ?_ | refine blk_alloc ?_ _)); exact BK1705.out) hb)
                                have n1_ := Aside0.mk (blk_below (g := gb1709) (o := .cells #[.int .u64 t1706, .int .u64 t1707] 25 (0, 0)) (by (with_reducible repeat (first | refine blk_drewN ?_ _ | refine blk_drew ?_ | refine blk_alloc ?_ _)); exact BK1709.out) hb)
                                have n2_ := Aside0.mk (blk_below (g := gb1713) (o := .cells #[.int .u64 t1710, .int .u64 t1711] 25 (0, 0)) (by (with_reducible repeat (first | refine blk_drewN ?_ _ | refine blk_drew ?_ | refine blk_alloc ?_ _)); exact BK1713.out) hb)
                                have n3_ := Aside0.mk (below_step (by repeat (first | (with_reducible first | exact HB.out | apply below_alloc | apply pw_below_drewN | apply below_drew1 | refine below_set ?_ GE1705.out | refine below_set ?_ GE1709.out | refine below_set ?_ GE1713.out) | exact HB.out)) hb)
                                clear BK1705
                                clear BK1709
                                clear BK1713
                                clear HB
                                have BK1705 := n0_
                                have BK1709 := n1_
                                have BK1713 := n2_
                                have HB := n3_
                                clear n0_ n1_ n2_ n3_
                                (try clear hb)
                                (try clear hb2)
                                (try clear hk)
                                (try clear hi)
                                refine hK.out _ _ ⟨(blk_cell BK1705.out 0).trans rfl, (blk_cell BK1705.out 1).trans rfl, (blk_cell BK1709.out 0).trans rfl, (blk_cell BK1709.out 1).trans rfl⟩ (fun hHeld => ?_)
                                clear hK K
                                refine norm_ (a' := ?_) ?_ ?_
                                rotate_left
                                · show Act.put _ (some 72) _ = _
                                  simp only [Act.put, List.setIfInBounds_toArray, List.set_cons_zero, List.set_cons_succ, i64_w, i32_w]
                                  rfl
                                refine pure_ (i := 54) (N := some 73) (v := ?_) (a' := ?_) #[true, true, true, true, true, true, true, true, true, true, true, true, true, true, true, true, true, true, true, true, true, true, true, true, true, true, true, true, true, true, true, true, true, true, true, true, true, true, true, true, true, true, true, true, true, true, true, true, true, true, true, true, true, true, true, false, false, false, false, false, false, false, false, false, false, false] rfl rfl (any_of HT_.out (by kernel_rfl)) (fun _ _ _ h => h) (Or.inl ⟨by rfl, ?_⟩) ?_ ?_
                                rotate_left
                                · intro w'
                                  go_simp
                                  with_reducible rfl
                                rotate_left
                                · simp only [Act.put, List.setIfInBounds_toArray, List.set_cons_zero, List.set_cons_succ, i64_w, i32_w]
                                  rfl
                                refine pure_ (i := 55) (N := some 74) (v := ?_) (a' := ?_) #[true, true, true, true, true, true, true, true, true, true, true, true, true, true, true, true, true, true, true, true, true, true, true, true, true, true, true, true, true, true, true, true, true, true, true, true, true, true, true, true, true, true, true, true, true, true, true, true, true, true, true, true, true, true, true, true, false, false, false, false, false, false, false, false, false, false] rfl rfl (any_of HT_.out (by kernel_rfl)) (fun _ _ _ h => h) (Or.inl ⟨by rfl, ?_⟩) ?_ ?_
                                rotate_left
                                · intro w'
                                  go_simp
                                  with_reducible rfl
                                rotate_left
                                · simp only [Act.put, List.setIfInBounds_toArray, List.set_cons_zero, List.set_cons_succ, i64_w, i32_w]
                                  rfl
                                refine pure_ (i := 56) (N := some 75) (v := ?_) (a' := ?_) #[true, true, true, true, true, true, true, true, true, true, true, true, true, true, true, true, true, true, true, true, true, true, true, true, true, true, true, true, true, true, true, true, true, true, true, true, true, true, true, true, true, true, true, true, true, true, true, true, true, true, true, true, true, true, true, true, true, false, false, false, false, false, false, false, false, false] rfl rfl (any_of HT_.out (by kernel_rfl)) (fun _ _ _ h => h) (Or.inl ⟨by rfl, ?_⟩) ?_ ?_
                                rotate_left
                                · intro w'
                                  go_simp
                                  with_reducible rfl
                                rotate_left
                                · simp only [Act.put, List.setIfInBounds_toArray, List.set_cons_zero, List.set_cons_succ, i64_w, i32_w]
                                  rfl
                                refine take_ (i := 57) (N := some 76) (v := ?_) (a' := ?_) #[true, true, true, true, true, true, true, true, true, true, true, true, true, true, true, true, true, true, true, true, true, true, true, true, true, true, true, true, true, true, true, true, true, true, true, true, true, true, true, true, true, true, true, true, true, true, true, true, true, true, true, true, true, true, true, true, true, true, false, false, false, false, false, false, false, false] rfl rfl (take_ofW HT_.out HW_.out (by kernel_rfl)) (fun _ _ _ h => h) (Or.inl ⟨by rfl, ?_⟩) hHeld ?_ ?_
                                rotate_left
                                · rintro w' ⟨s0, s1, s2, s3⟩
                                  go_simp
                                  with_reducible rfl
                                rotate_left
                                · simp only [Act.put, List.setIfInBounds_toArray, List.set_cons_zero, List.set_cons_succ, i64_w, i32_w]
                                  rfl
                                refine one_ (i := 58) (N := some 77) #[true, true, true, true, true, true, true, true, true, true, true, true, true, true, true, true, true, true, true, true, true, true, true, true, true, true, true, true, true, true, true, true, true, true, true, true, true, true, true, true, true, true, true, true, true, true, true, true, true, true, true, true, true, true, true, true, true, true, true, false, false, false, false, false, false, false] rfl rfl (one_of HT_.out (by kernel_rfl)) (by decide) (fun K hK => ?_)
                                refine goes_ Try.func64 (by kernel_rfl) rfl #[.agg #[.int .u64 t1706, .int .u64 t1707], .int .i64 37] (by rfl) rfl rfl (by (try simp only [List.map_toArray, List.map_cons, List.map_nil]); first | done | rfl | (simp only [List.length_drop, List.length_take]; rfl)) ?_
                                with_reducible refine (decimal_Digit.calls t1706 t1707 37 t1729 _ A31.out).mono ?_
                                rintro e w60 ⟨rfl, hb⟩
                                refine ⟨_, rfl, ?_⟩
                                have n0_ := Aside0.mk (blk_below (g := gb1705) (o := .cells #[.int .u64 t1702, .int .u64 t1703] 25 (0, 0)) (by (with_reducible repeat (first | refine blk_drewN ?_ _ | refine blk_drew ?_ | refine blk_alloc ?_ _)); exact BK1705.out) hb)
                                have n1_ := Aside0.mk (blk_below (g := gb1709) (o := .cells #[.int .u64 t1706, .int .u64 t1707] 25 (0, 0)) (by (with_reducible repeat (first | refine blk_drewN ?_ _ | refine blk_drew ?_ | refine blk_alloc ?_ _)); exact BK1709.out) hb)
                                have n2_ := Aside0.mk (blk_below (g := gb1713) (o := .cells #[.int .u64 t1710, .int .u64 t1711] 25 (0, 0)) (by (with_reducible repeat (first | refine blk_drewN ?_ _ | refine blk_drew ?_ | refine blk_alloc ?_ _)); exact BK1713.out) hb)
                                have n3_ := Aside0.mk (below_step (by repeat (first | (with_reducible first | exact HB.out | apply below_alloc | apply pw_below_drewN | apply below_drew1 | refine below_set ?_ GE1705.out | refine below_set ?_ GE1709.out | refine below_set ?_ GE1713.out) | exact HB.out)) hb)
                                clear BK1705
                                clear BK1709
                                clear BK1713
                                clear HB
                                have BK1705 := n0_
                                have BK1709 := n1_
                                have BK1713 := n2_
                                have HB := n3_
                                clear n0_ n1_ n2_ n3_
                                (try clear hb)
                                (try clear hb2)
                                (try clear hk)
                                (try clear hi)
                                refine hK.out _ _ ⟨(blk_cell BK1705.out 0).trans rfl, (blk_cell BK1705.out 1).trans rfl, (blk_cell BK1709.out 0).trans rfl, (blk_cell BK1709.out 1).trans rfl⟩ (fun hHeld => ?_)
                                clear hK K
                                refine norm_ (a' := ?_) ?_ ?_
                                rotate_left
                                · show Act.put _ (some 77) _ = _
                                  simp only [Act.put, List.setIfInBounds_toArray, List.set_cons_zero, List.set_cons_succ, i64_w, i32_w]
                                  rfl
                                refine pure_ (i := 59) (N := some 78) (v := ?_) (a' := ?_) #[true, true, true, true, true, true, true, true, true, true, true, true, true, true, true, true, true, true, true, true, true, true, true, true, true, true, true, true, true, true, true, true, true, true, true, true, true, true, true, true, true, true, true, true, true, true, true, true, true, true, true, true, true, true, true, true, true, true, true, true, false, false, false, false, false, false] rfl rfl (any_of HT_.out (by kernel_rfl)) (fun _ _ _ h => h) (Or.inl ⟨by rfl, ?_⟩) ?_ ?_
                                rotate_left
                                · intro w'
                                  go_simp
                                  with_reducible rfl
                                rotate_left
                                · simp only [Act.put, List.setIfInBounds_toArray, List.set_cons_zero, List.set_cons_succ, i64_w, i32_w]
                                  rfl
                                refine pure_ (i := 60) (N := some 79) (v := ?_) (a' := ?_) #[true, true, true, true, true, true, true, true, true, true, true, true, true, true, true, true, true, true, true, true, true, true, true, true, true, true, true, true, true, true, true, true, true, true, true, true, true, true, true, true, true, true, true, true, true, true, true, true, true, true, true, true, true, true, true, true, true, true, true, true, true, false, false, false, false, false] rfl rfl (any_of HT_.out (by kernel_rfl)) (fun _ _ _ h => h) (Or.inl ⟨by rfl, ?_⟩) ?_ ?_
                                rotate_left
                                · intro w'
                                  go_simp
                                  with_reducible rfl
                                rotate_left
                                · simp only [Act.put, List.setIfInBounds_toArray, List.set_cons_zero, List.set_cons_succ, i64_w, i32_w]
                                  rfl
                                refine pure_ (i := 61) (N := some 80) (v := ?_) (a' := ?_) #[true, true, true, true, true, true, true, true, true, true, true, true, true, true, true, true, true, true, true, true, true, true, true, true, true, true, true, true, true, true, true, true, true, true, true, true, true, true, true, true, true, true, true, true, true, true, true, true, true, true, true, true, true, true, true, true, true, true, true, true, true, true, false, false, false, false] rfl rfl (any_of HT_.out (by kernel_rfl)) (fun _ _ _ h => h) (Or.inl ⟨by rfl, ?_⟩) ?_ ?_
                                rotate_left
                                · intro w'
                                  go_simp
                                  with_reducible rfl
                                rotate_left
                                · simp only [Act.put, List.setIfInBounds_toArray, List.set_cons_zero, List.set_cons_succ, i64_w, i32_w]
                                  rfl
                                refine pure_ (i := 62) (N := some 81) (v := ?_) (a' := ?_) #[true, true, true, true, true, true, true, true, true, true, true, true, true, true, true, true, true, true, true, true, true, true, true, true, true, true, true, true, true, true, true, true, true, true, true, true, true, true, true, true, true, true, true, true, true, true, true, true, true, true, true, true, true, true, true, true, true, true, true, true, true, true, true, false, false, false] rfl rfl (any_of HT_.out (by kernel_rfl)) (fun _ _ _ h => h) (Or.inl ⟨by rfl, ?_⟩) ?_ ?_
                                rotate_left
                                · intro w'
                                  go_simp
                                  with_reducible rfl
                                rotate_left
                                · simp only [Act.put, List.setIfInBounds_toArray, List.set_cons_zero, List.set_cons_succ, i64_w, i32_w]
                                  rfl
                                refine pure_ (i := 63) (N := some 82) (v := ?_) (a' := ?_) #[true, true, true, true, true, true, true, true, true, true, true, true, true, true, true, true, true, true, true, true, true, true, true, true, true, true, true, true, true, true, true, true, true, true, true, true, true, true, true, true, true, true, true, true, true, true, true, true, true, true, true, true, true, true, true, true, true, true, true, true, true, true, true, true, false, false] rfl rfl (any_of HT_.out (by kernel_rfl)) (fun _ _ _ h => h) (Or.inl ⟨by rfl, ?_⟩) ?_ ?_
                                rotate_left
                                · intro w'
                                  go_simp
                                  with_reducible rfl
                                rotate_left
                                · simp only [Act.put, List.setIfInBounds_toArray, List.set_cons_zero, List.set_cons_succ, i64_w, i32_w]
                                  rfl
                                refine pure_ (i := 64) (N := some 83) (v := ?_) (a' := ?_) #[true, true, true, true, true, true, true, true, true, true, true, true, true, true, true, true, true, true, true, true, true, true, true, true, true, true, true, true, true, true, true, true, true, true, true, true, true, true, true, true, true, true, true, true, true, true, true, true, true, true, true, true, true, true, true, true, true, true, true, true, true, true, true, true, true, false] rfl rfl (any_of HT_.out (by kernel_rfl)) (fun _ _ _ h => h) (Or.inl ⟨by rfl, ?_⟩) ?_ ?_
                                rotate_left
                                · intro w'
                                  go_simp
                                  with_reducible rfl
                                rotate_left
                                · simp only [Act.put, List.setIfInBounds_toArray, List.set_cons_zero, List.set_cons_succ, i64_w, i32_w]
                                  rfl
                                refine pure_ (i := 65) (N := some 0) (v := ?_) (a' := ?_) #[true, true, true, true, true, true, true, true, true, true, true, true, true, true, true, true, true, true, true, true, true, true, true, true, true, true, true, true, true, true, true, true, true, true, true, true, true, true, true, true, true, true, true, true, true, true, true, true, true, true, true, true, true, true, true, true, true, true, true, true, true, true, true, true, true, true] rfl rfl (any_of HT_.out (by kernel_rfl)) (fun _ _ _ h => h) (Or.inl ⟨by rfl, ?_⟩) ?_ ?_
                                rotate_left
                                · intro w'
                                  go_simp
                                  with_reducible rfl
                                rotate_left
                                · simp only [Act.put, List.setIfInBounds_toArray, List.set_cons_zero, List.set_cons_succ, i64_w, i32_w]
                                  rfl
                                refine done_ (done_of HT_.out (by kernel_rfl)) ?_
                                try go_wp2
                                go_ret
                                exact ⟨by first | rfl | (simp [errW_none, errW_some] <;> rfl) | (simp [*, errW_none, errW_some] <;> rfl), by repeat (first | (with_reducible first | exact HB.out | apply below_alloc | apply pw_below_drewN | apply below_drew1 | refine below_set ?_ GE1705.out | refine below_set ?_ GE1709.out | refine below_set ?_ GE1713.out) | exact HB.out)⟩
                              · rw [if_neg c32] at H
                                have c32b0 : (t1729 == 0) = false := beq_eq_false_iff_ne.mpr c32
                                have c32b1 : (t1729 != 0) = true := bne_iff_ne.mpr c32
                                exact absurd H (by simp)
                            · rw [if_neg c30] at H
                              have c30b0 : (t1728 == 1) = false := beq_eq_false_iff_ne.mpr c30
                              have c30b1 : (t1728 != 1) = true := bne_iff_ne.mpr c30
                              exact absurd H (by simp)
                          · rw [if_neg c28] at H
                            have c28b0 : (t1727 == 39) = false := beq_eq_false_iff_ne.mpr c28
                            have c28b1 : (t1727 != 39) = true := bne_iff_ne.mpr c28
                            exact absurd H (by simp)
                        · rw [if_neg c26] at H
                          have c26b0 : (t1708 == 0) = false := beq_eq_false_iff_ne.mpr c26
                          have c26b1 : (t1708 != 0) = true := bne_iff_ne.mpr c26
                          exact absurd H (by simp)
                      · rw [if_neg c25] at H
                        have c25b0 : (t1726.toList == ([49, 95, 50, 51, 52, 95, 53, 54, 55] : List UInt8)) = false := beq_eq_false_iff_ne.mpr c25
                        have c25b1 : (t1726.toList != ([49, 95, 50, 51, 52, 95, 53, 54, 55] : List UInt8)) = true := bne_iff_ne.mpr c25
                        exact absurd H (by simp)
                    · replace c22 := Bool.eq_false_iff.mpr c22
                      subst c22
                      have H1 : (none) = some r := by rw [if_neg (show ¬ (false = true) by decide)] at H; exact H
                      clear H
                      have H := H1
                      clear H1
                      exact absurd H (by simp)
                  · replace c20 := Bool.eq_false_iff.mpr c20
                    subst c20
                    have H1 : (none) = some r := by rw [if_neg (show ¬ (false = true) by decide)] at H; exact H
                    clear H
                    have H := H1
                    clear H1
                    exact absurd H (by simp)
                · replace c18 := Bool.eq_false_iff.mpr c18
                  subst c18
                  have H1 : (none) = some r := by rw [if_neg (show ¬ (false = true) by decide)] at H; exact H
                  clear H
                  have H := H1
                  clear H1
                  exact absurd H (by simp)
              · replace c16 := Bool.eq_false_iff.mpr c16
                subst c16
                have H1 : (none) = some r := by rw [if_neg (show ¬ (false = true) by decide)] at H; exact H
                clear H
                have H := H1
                clear H1
                exact absurd H (by simp)
            · replace c14 := Bool.eq_false_iff.mpr c14
              subst c14
              have H1 : (none) = some r := by rw [if_neg (show ¬ (false = true) by decide)] at H; exact H
              clear H
              have H := H1
              clear H1
              exact absurd H (by simp)
          · rw [if_neg c12] at H
            have c12b0 : (t1718 == 39) = false := beq_eq_false_iff_ne.mpr c12
            have c12b1 : (t1718 != 39) = true := bne_iff_ne.mpr c12
            exact absurd H (by simp)
        · rw [if_neg c10] at H
          have c10b0 : (t1717.toList == ([51, 52, 48, 50, 56, 50, 51, 54, 54, 57, 50, 48, 57, 51, 56, 52, 54, 51, 52, 54, 51, 51, 55, 52, 54, 48, 55, 52, 51, 49, 55, 54, 56, 50, 49, 49, 52, 53, 53] : List UInt8)) = false := beq_eq_false_iff_ne.mpr c10
          have c10b1 : (t1717.toList != ([51, 52, 48, 50, 56, 50, 51, 54, 54, 57, 50, 48, 57, 51, 56, 52, 54, 51, 52, 54, 51, 51, 55, 52, 54, 48, 55, 52, 51, 49, 55, 54, 56, 50, 49, 49, 52, 53, 53] : List UInt8)) = true := bne_iff_ne.mpr c10
          exact absurd H (by simp)
      · rw [if_neg c8] at H
        have c8b0 : (t1716.toList == ([48] : List UInt8)) = false := beq_eq_false_iff_ne.mpr c8
        have c8b1 : (t1716.toList != ([48] : List UInt8)) = true := bne_iff_ne.mpr c8
        exact absurd H (by simp)
    · rw [if_neg c6] at H
      have c6b0 : (t1702 == t1714 && (t1703 == t1715)) = false := by simpa using c6
      (try (have c6b1 : decide (t1702 = t1714 && (t1703 == t1715)) = false := by simpa using c6))
      (try (have c6b2 : (t1702 == t1714 && (t1703 == t1715)) = false := by simpa using c6))
      (try (have c6b3 : ¬ (t1702 = t1714 && (t1703 == t1715)) := by simpa using c6))
      clear c6
      exact absurd H (by simp)
  · rw [if_neg c4] at H
    have c4b0 : (t1704 == 0) = false := beq_eq_false_iff_ne.mpr c4
    have c4b1 : (t1704 != 0) = true := bne_iff_ne.mpr c4
    exact absurd H (by simp)
end Go.Proofs.Ytpkjpiphjdpegaa.P
namespace Go.Proofs.Ytpkjpiphjdpegaa.P
open Go.RowKit Go.Proofs.YtpkjpiphjdpegaaW.PrintWords Go.Proofs.YtpkjpiphjdpegaaW.PrintLast Go.Proofs.YtpkjpiphjdpegaaW.PrintMore
attribute [local go_sem] max2_int min2_int max_two min_two max_three min_three max_four min_four
set_option linter.unusedVariables false
set_option linter.unusedSimpArgs false
attribute [local go_sem high] eqA25
def paymasterlaw02_DecimalBack.f (k : Nat) (a0_0 : Int) (a0_1 : Int) (a1 : ByteArray) : Option (Bool) := (paymasterlaw02_awake.f k).bind fun t1731 => (if t1731 = true then (if (a1.size : Int) > 300 then (some true) else ((decimal_Text.f a0_0 a0_1).bind fun t1752 => ((decimal_Parse.f t1752).bind fun bt1753 => (if bt1753.2.2 = 0 then (if (!(bt1753.1 == a0_0) || (!(bt1753.2.1 == a0_1))) = true then (none) else ((decimal_Parse.f a1).bind fun bt1767 => (if bt1767.2.2 = 0 then ((decimal_Text.f bt1767.1 bt1767.2.1).bind fun t1771 => (some (t1771.toList == a1.toList))) else (if bt1767.2.2 = 20 then (some (bt1767.1 == 0 && (bt1767.2.1 == 0))) else (if bt1767.2.2 = 10 then (if (a1.size : Int) ≥ 39 then (some (bt1767.1 == 0 && (bt1767.2.1 == 0))) else (none)) else (none)))))) else (none))))) else (none))
set_option maxHeartbeats 8000000 in
set_option maxRecDepth 100000 in
theorem paymasterlaw02_DecimalBack.calls (k : Nat) (a0_0 : Int) (a0_1 : Int) (a1 : ByteArray) (r : Bool) (w : World) (h : paymasterlaw02_DecimalBack.f k a0_0 a0_1 a1 = some r) :
    Calls Try.prog 20 #[.agg #[.int .u64 a0_0, .int .u64 a0_1], .string a1] w fun e w' => e = .returned (.bool r) ∧ Below w.heap.size w w' := by
  have hu25 := Try.underlying25
  have HB := Aside0.mk (Below.refl w.heap.size w)
  have H : ((paymasterlaw02_awake.f k).bind fun t1731 => (if t1731 = true then (if (a1.size : Int) > 300 then (some true) else ((decimal_Text.f a0_0 a0_1).bind fun t1752 => ((decimal_Parse.f t1752).bind fun bt1753 => (if bt1753.2.2 = 0 then (if (!(bt1753.1 == a0_0) || (!(bt1753.2.1 == a0_1))) = true then (none) else ((decimal_Parse.f a1).bind fun bt1767 => (if bt1767.2.2 = 0 then ((decimal_Text.f bt1767.1 bt1767.2.1).bind fun t1771 => (some (t1771.toList == a1.toList))) else (if bt1767.2.2 = 20 then (some (bt1767.1 == 0 && (bt1767.2.1 == 0))) else (if bt1767.2.2 = 10 then (if (a1.size : Int) ≥ 39 then (some (bt1767.1 == 0 && (bt1767.2.1 == 0))) else (none)) else (none)))))) else (none))))) else (none))) = some r := h
  clear h
  replace H := Option.bind_eq_some_iff.mp H
  obtain ⟨t1731, A30, H⟩ := H
  replace H : (if t1731 = true then (if (a1.size : Int) > 300 then (some true) else ((decimal_Text.f a0_0 a0_1).bind fun t1752 => ((decimal_Parse.f t1752).bind fun bt1753 => (if bt1753.2.2 = 0 then (if (!(bt1753.1 == a0_0) || (!(bt1753.2.1 == a0_1))) = true then (none) else ((decimal_Parse.f a1).bind fun bt1767 => (if bt1767.2.2 = 0 then ((decimal_Text.f bt1767.1 bt1767.2.1).bind fun t1771 => (some (t1771.toList == a1.toList))) else (if bt1767.2.2 = 20 then (some (bt1767.1 == 0 && (bt1767.2.1 == 0))) else (if bt1767.2.2 = 10 then (if (a1.size : Int) ≥ 39 then (some (bt1767.1 == 0 && (bt1767.2.1 == 0))) else (none)) else (none)))))) else (none))))) else (none)) = some r := H
  have A3 := Aside0.mk A30
  clear A30
  by_cases c4 : t1731 = true
  · subst c4
    have H1 : (if (a1.size : Int) > 300 then (some true) else ((decimal_Text.f a0_0 a0_1).bind fun t1752 => ((decimal_Parse.f t1752).bind fun bt1753 => (if bt1753.2.2 = 0 then (if (!(bt1753.1 == a0_0) || (!(bt1753.2.1 == a0_1))) = true then (none) else ((decimal_Parse.f a1).bind fun bt1767 => (if bt1767.2.2 = 0 then ((decimal_Text.f bt1767.1 bt1767.2.1).bind fun t1771 => (some (t1771.toList == a1.toList))) else (if bt1767.2.2 = 20 then (some (bt1767.1 == 0 && (bt1767.2.1 == 0))) else (if bt1767.2.2 = 10 then (if (a1.size : Int) ≥ 39 then (some (bt1767.1 == 0 && (bt1767.2.1 == 0))) else (none)) else (none)))))) else (none))))) = some r := by rw [if_pos rfl] at H; exact H
    clear H
    have H := H1
    clear H1
    by_cases c5 : (a1.size : Int) > 300
    · rw [if_pos c5] at H
      have c5b0 : decide (300 < (a1.size : Int)) = true := decide_eq_true c5
      have c5b1 : decide (300 < a1.size) = true := decide_eq_true (by omega)
      clear c5
      obtain rfl := Option.some.inj H
      go_enter Try.func20, Try.ntmps20
      go_wp2_with (first | ((with_reducible refine gate_dst (N := 2) rfl ?_); (try (refine gate_guard (by rfl) ?_; dsimp only)); refine box_event ?hg (N := 2) ?hd (cs := #[.int .u64 a0_0, .int .u64 a0_1]) (t := 25) ?hr ?_; (case hd => rfl); (case hg => rfl); (case hr => first | (go_simp; done) | (go_simp; rfl)); intro gb1730 hg w6 hbox hb; have n0_ := Aside0.mk (below_step (by repeat (first | (with_reducible first | exact HB.out | apply below_alloc | apply pw_below_drewN | apply below_drew1) | exact HB.out)) hb); have n1_ := Aside0.mk (hbox); have n2_ := Aside0.mk ((by rw [hg]; exact (below_size (by repeat (first | (with_reducible first | exact HB.out | apply below_alloc | apply pw_below_drewN | apply below_drew1) | exact HB.out))) : w.heap.size ≤ gb1730)); have n3_ := Aside0.mk ((by rw [hg]; exact (below_size (by repeat (first | (with_reducible first | exact HB.out | apply below_alloc | apply pw_below_drewN | apply below_drew1) | exact HB.out))) : w.heap.size ≤ gb1730)); clear HB; have HB := n0_; have BK1730 := n1_; have GW1730 := n2_; have GE1730 := n3_; clear n0_ n1_ n2_ n3_; clear hb hbox hg) | ((with_reducible refine gate_callee (f := 81) rfl ?_); refine goesL_ (some 9) rfl rfl Try.func81 (by kernel_rfl) rfl #[] rfl (by (try simp only [List.map_toArray, List.map_cons, List.map_nil]); first | done | rfl | (simp only [List.length_drop, List.length_take]; rfl)) ?_; (with_reducible refine (paymasterlaw02_awake.calls k  true _ A3.out).mono ?_); rintro e w7 ⟨rfl, hb⟩; refine ⟨_, rfl, ?_⟩; have n0_ := Aside0.mk (blk_below (g := gb1730) (o := .cells #[.int .u64 a0_0, .int .u64 a0_1] 25 (0, 0)) (by (with_reducible repeat (first | refine blk_drewN ?_ _ | refine blk_drew ?_ | refine blk_alloc ?_ _)); exact BK1730.out) hb); have n1_ := Aside0.mk (below_step (by repeat (first | (with_reducible first | exact HB.out | apply below_alloc | apply pw_below_drewN | apply below_drew1 | refine below_set ?_ GE1730.out) | exact HB.out)) hb); clear BK1730; clear HB; have BK1730 := n0_; have HB := n1_; clear n0_ n1_; (try clear hb); (try clear hb2); (try clear hk); (try clear hi)))
      go_ret
      exact ⟨by first | rfl | (simp [errW_none, errW_some] <;> rfl) | (simp [*, errW_none, errW_some] <;> rfl), by repeat (first | (with_reducible first | exact HB.out | apply below_alloc | apply pw_below_drewN | apply below_drew1 | refine below_set ?_ GE1730.out) | exact HB.out)⟩
    · rw [if_neg c5] at H
      have c5b0 : decide (300 < (a1.size : Int)) = false := decide_eq_false c5
      have c5b1 : decide (300 < a1.size) = false := decide_eq_false (by omega)
      clear c5
      replace H := Option.bind_eq_some_iff.mp H
      obtain ⟨t1752, A80, H⟩ := H
      replace H : ((decimal_Parse.f t1752).bind fun bt1753 => (if bt1753.2.2 = 0 then (if (!(bt1753.1 == a0_0) || (!(bt1753.2.1 == a0_1))) = true then (none) else ((decimal_Parse.f a1).bind fun bt1767 => (if bt1767.2.2 = 0 then ((decimal_Text.f bt1767.1 bt1767.2.1).bind fun t1771 => (some (t1771.toList == a1.toList))) else (if bt1767.2.2 = 20 then (some (bt1767.1 == 0 && (bt1767.2.1 == 0))) else (if bt1767.2.2 = 10 then (if (a1.size : Int) ≥ 39 then (some (bt1767.1 == 0 && (bt1767.2.1 == 0))) else (none)) else (none)))))) else (none))) = some r := H
      have A8 := Aside0.mk A80
      clear A80
      replace H := Option.bind_eq_some_iff.mp H
      obtain ⟨⟨t1753, t1754, t1755⟩, A90, H⟩ := H
      replace H : (if t1755 = 0 then (if (!(t1753 == a0_0) || (!(t1754 == a0_1))) = true then (none) else ((decimal_Parse.f a1).bind fun bt1767 => (if bt1767.2.2 = 0 then ((decimal_Text.f bt1767.1 bt1767.2.1).bind fun t1771 => (some (t1771.toList == a1.toList))) else (if bt1767.2.2 = 20 then (some (bt1767.1 == 0 && (bt1767.2.1 == 0))) else (if bt1767.2.2 = 10 then (if (a1.size : Int) ≥ 39 then (some (bt1767.1 == 0 && (bt1767.2.1 == 0))) else (none)) else (none)))))) else (none)) = some r := H
      have A9 := Aside0.mk A90
      clear A90
      by_cases c10 : t1755 = 0
      · rw [if_pos c10] at H
        have c10b0 : (t1755 == 0) = true := beq_iff_eq.mpr c10
        have c10b1 : (t1755 != 0) = false := bne_eq_false_iff_eq.mpr c10
        clear c10
        by_cases c11 : (!(t1753 == a0_0) || (!(t1754 == a0_1))) = true
        · rw [if_pos c11] at H
          exact absurd H (by simp)
        · rw [if_neg c11] at H
          have c11b0 : (!(t1753 == a0_0) || (!(t1754 == a0_1))) = false := by simpa using c11
          clear c11
          replace H := Option.bind_eq_some_iff.mp H
          obtain ⟨⟨t1767, t1768, t1769⟩, A120, H⟩ := H
          replace H : (if t1769 = 0 then ((decimal_Text.f t1767 t1768).bind fun t1771 => (some (t1771.toList == a1.toList))) else (if t1769 = 20 then (some (t1767 == 0 && (t1768 == 0))) else (if t1769 = 10 then (if (a1.size : Int) ≥ 39 then (some (t1767 == 0 && (t1768 == 0))) else (none)) else (none)))) = some r := H
          have A12 := Aside0.mk A120
          clear A120
          by_cases c13 : t1769 = 0
          · rw [if_pos c13] at H
            have c13b0 : (t1769 == 0) = true := beq_iff_eq.mpr c13
            have c13b1 : (t1769 != 0) = false := bne_eq_false_iff_eq.mpr c13
            clear c13
            replace H := Option.bind_eq_some_iff.mp H
            obtain ⟨t1771, A140, H⟩ := H
            replace H : (some (t1771.toList == a1.toList)) = some r := H
            have A14 := Aside0.mk A140
            clear A140
            obtain rfl := Option.some.inj H
            go_enter Try.func20, Try.ntmps20
            go_wp2_with (first | ((with_reducible refine gate_dst (N := 2) rfl ?_); (try (refine gate_guard (by rfl) ?_; dsimp only)); refine box_event ?hg (N := 2) ?hd (cs := #[.int .u64 a0_0, .int .u64 a0_1]) (t := 25) ?hr ?_; (case hd => rfl); (case hg => rfl); (case hr => first | (go_simp; done) | (go_simp; rfl)); intro gb1730 hg w15 hbox hb; have n0_ := Aside0.mk (below_step (by repeat (first | (with_reducible first | exact HB.out | apply below_alloc | apply pw_below_drewN | apply below_drew1) | exact HB.out)) hb); have n1_ := Aside0.mk (hbox); have n2_ := Aside0.mk ((by rw [hg]; exact (below_size (by repeat (first | (with_reducible first | exact HB.out | apply below_alloc | apply pw_below_drewN | apply below_drew1) | exact HB.out))) : w.heap.size ≤ gb1730)); have n3_ := Aside0.mk ((by rw [hg]; exact (below_size (by repeat (first | (with_reducible first | exact HB.out | apply below_alloc | apply pw_below_drewN | apply below_drew1) | exact HB.out))) : w.heap.size ≤ gb1730)); clear HB; have HB := n0_; have BK1730 := n1_; have GW1730 := n2_; have GE1730 := n3_; clear n0_ n1_ n2_ n3_; clear hb hbox hg) | ((with_reducible refine gate_callee (f := 81) rfl ?_); refine goesL_ (some 9) rfl rfl Try.func81 (by kernel_rfl) rfl #[] rfl (by (try simp only [List.map_toArray, List.map_cons, List.map_nil]); first | done | rfl | (simp only [List.length_drop, List.length_take]; rfl)) ?_; (with_reducible refine (paymasterlaw02_awake.calls k  true _ A3.out).mono ?_); rintro e w16 ⟨rfl, hb⟩; refine ⟨_, rfl, ?_⟩; have n0_ := Aside0.mk (blk_below (g := gb1730) (o := .cells #[.int .u64 a0_0, .int .u64 a0_1] 25 (0, 0)) (by (with_reducible repeat (first | refine blk_drewN ?_ _ | refine blk_drew ?_ | refine blk_alloc ?_ _)); exact BK1730.out) hb); have n1_ := Aside0.mk (below_step (by repeat (first | (with_reducible first | exact HB.out | apply below_alloc | apply pw_below_drewN | apply below_drew1 | refine below_set ?_ GE1730.out) | exact HB.out)) hb); clear BK1730; clear HB; have BK1730 := n0_; have HB := n1_; clear n0_ n1_; (try clear hb); (try clear hb2); (try clear hk); (try clear hi); have hcz17_0 : w16.cell? ⟨gb1730, 0, none⟩ = some (.int .u64 a0_0) := (blk_cell BK1730.out 0).trans rfl; have hcz17_1 : w16.cell? ⟨gb1730, 1, none⟩ = some (.int .u64 a0_1) := (blk_cell BK1730.out 1).trans rfl; have hfz17_0 := blk_frozen BK1730.out 0; have hfz17_1 := blk_frozen BK1730.out 1) | ((with_reducible refine gate_callee (f := 78) rfl ?_); refine goesL_ (some 16) rfl rfl Try.func78 (by kernel_rfl) rfl #[.agg #[.int .u64 a0_0, .int .u64 a0_1]] rfl (by (try simp only [List.map_toArray, List.map_cons, List.map_nil]); first | done | rfl | (simp only [List.length_drop, List.length_take]; rfl)) ?_; (with_reducible refine (decimal_Text.calls a0_0 a0_1 t1752 _ A8.out).mono ?_); rintro e w18 ⟨rfl, hb⟩; refine ⟨_, rfl, ?_⟩; have n0_ := Aside0.mk (blk_below (g := gb1730) (o := .cells #[.int .u64 a0_0, .int .u64 a0_1] 25 (0, 0)) (by (with_reducible repeat (first | refine blk_drewN ?_ _ | refine blk_drew ?_ | refine blk_alloc ?_ _)); exact BK1730.out) hb); have n1_ := Aside0.mk (below_step (by repeat (first | (with_reducible first | exact HB.out | apply below_alloc | apply pw_below_drewN | apply below_drew1 | refine below_set ?_ GE1730.out) | exact HB.out)) hb); clear BK1730; clear HB; have BK1730 := n0_; have HB := n1_; clear n0_ n1_; (try clear hb); (try clear hb2); (try clear hk); (try clear hi)) | ((with_reducible refine gate_callee (f := 76) rfl ?_); refine goesL_ (some 17) rfl rfl Try.func76 (by kernel_rfl) rfl #[.string t1752] rfl (by (try simp only [List.map_toArray, List.map_cons, List.map_nil]); first | done | rfl | (simp only [List.length_drop, List.length_take]; rfl)) ?_; (with_reducible refine (decimal_Parse.calls t1752 t1753 t1754 t1755 _ A9.out).mono ?_); rintro e w19 ⟨rfl, hb⟩; refine ⟨_, rfl, ?_⟩; have n0_ := Aside0.mk (blk_below (g := gb1730) (o := .cells #[.int .u64 a0_0, .int .u64 a0_1] 25 (0, 0)) (by (with_reducible repeat (first | refine blk_drewN ?_ _ | refine blk_drew ?_ | refine blk_alloc ?_ _)); exact BK1730.out) hb); have n1_ := Aside0.mk (below_step (by repeat (first | (with_reducible first | exact HB.out | apply below_alloc | apply pw_below_drewN | apply below_drew1 | refine below_set ?_ GE1730.out) | exact HB.out)) hb); clear BK1730; clear HB; have BK1730 := n0_; have HB := n1_; clear n0_ n1_; (try clear hb); (try clear hb2); (try clear hk); (try clear hi)) | ((with_reducible refine gate_dst (N := 5) rfl ?_); (try (refine gate_guard (by rfl) ?_; dsimp only)); refine box_event ?hg (N := 5) ?hd (cs := #[.int .u64 0, .int .u64 0]) (t := 25) ?hr ?_; (case hd => rfl); (case hg => rfl); (case hr => first | (go_simp; done) | (go_simp; rfl)); intro gb1756 hg w20 hbox hb; have n0_ := Aside0.mk (blk_below (g := gb1730) (o := .cells #[.int .u64 a0_0, .int .u64 a0_1] 25 (0, 0)) (by (with_reducible repeat (first | refine blk_drewN ?_ _ | refine blk_drew ?_ | refine blk_alloc ?_ _)); exact BK1730.out) hb); have n1_ := Aside0.mk (below_step (by repeat (first | (with_reducible first | exact HB.out | apply below_alloc | apply pw_below_drewN | apply below_drew1 | refine below_set ?_ GE1730.out) | exact HB.out)) hb); have n2_ := Aside0.mk (hbox); have n3_ := Aside0.mk ((by rw [hg]; exact (below_size (by repeat (first | (with_reducible first | exact HB.out | apply below_alloc | apply pw_below_drewN | apply below_drew1 | refine below_set ?_ GE1730.out) | exact HB.out))) : w.heap.size ≤ gb1756)); have n4_ := Aside0.mk ((by rw [hg]; exact (below_size (by repeat (first | (with_reducible first | exact HB.out | apply below_alloc | apply pw_below_drewN | apply below_drew1 | refine below_set ?_ GE1730.out) | exact HB.out))) : w.heap.size ≤ gb1756)); have n5_ := Aside0.mk ((by rw [hg]; exact Nat.ne_of_lt (blk_lt (g := gb1730) (o := .cells #[.int .u64 a0_0, .int .u64 a0_1] 25 (0, 0)) (by (with_reducible repeat (first | refine blk_drewN ?_ _ | refine blk_drew ?_ | refine blk_alloc ?_ _)); exact BK1730.out)) : gb1730 ≠ gb1756)); have n6_ := Aside0.mk ((by rw [hg]; exact Nat.ne_of_gt (blk_lt (g := gb1730) (o := .cells #[.int .u64 a0_0, .int .u64 a0_1] 25 (0, 0)) (by (with_reducible repeat (first | refine blk_drewN ?_ _ | refine blk_drew ?_ | refine blk_alloc ?_ _)); exact BK1730.out)) : gb1756 ≠ gb1730)); clear BK1730; clear HB; have BK1730 := n0_; have HB := n1_; have BK1756 := n2_; have GW1756 := n3_; have GE1756 := n4_; have NB1730_1756 := n5_; have NB1756_1730 := n6_; clear n0_ n1_ n2_ n3_ n4_ n5_ n6_; clear hb hbox hg; have hnb21 := NB1756_1730.out; have hnc21 := NB1730_1756.out; have hcz22_0 : w20.cell? ⟨gb1756, 0, none⟩ = some (.int .u64 0) := (blk_cell BK1756.out 0).trans rfl; have hcz22_1 : w20.cell? ⟨gb1756, 1, none⟩ = some (.int .u64 0) := (blk_cell BK1756.out 1).trans rfl; have hfz22_0 := blk_frozen BK1756.out 0; have hfz22_1 := blk_frozen BK1756.out 1; have hcz23_0 : w20.cell? ⟨gb1730, 0, none⟩ = some (.int .u64 a0_0) := (blk_cell BK1730.out 0).trans rfl; have hcz23_1 : w20.cell? ⟨gb1730, 1, none⟩ = some (.int .u64 a0_1) := (blk_cell BK1730.out 1).trans rfl; have hfz23_0 := blk_frozen BK1730.out 0; have hfz23_1 := blk_frozen BK1730.out 1) | ((with_reducible refine gate_callee (f := 76) rfl ?_); refine goesL_ (some 29) rfl rfl Try.func76 (by kernel_rfl) rfl #[.string a1] rfl (by (try simp only [List.map_toArray, List.map_cons, List.map_nil]); first | done | rfl | (simp only [List.length_drop, List.length_take]; rfl)) ?_; (with_reducible refine (decimal_Parse.calls a1 t1767 t1768 t1769 _ A12.out).mono ?_); rintro e w24 ⟨rfl, hb⟩; refine ⟨_, rfl, ?_⟩; have n0_ := Aside0.mk (blk_below (g := gb1730) (o := .cells #[.int .u64 a0_0, .int .u64 a0_1] 25 (0, 0)) (by (with_reducible repeat (first | refine blk_drewN ?_ _ | refine blk_drew ?_ | refine blk_alloc ?_ _)); refine blk_far ?_ NB1730_1756.out _; (with_reducible repeat (first | refine blk_drewN ?_ _ | refine blk_drew ?_ | refine blk_alloc ?_ _)); refine blk_far ?_ NB1730_1756.out _; (with_reducible repeat (first | refine blk_drewN ?_ _ | refine blk_drew ?_ | refine blk_alloc ?_ _)); exact BK1730.out) hb); have n1_ := Aside0.mk (blk_below (g := gb1756) (o := .cells #[.int .u64 t1753, .int .u64 t1754] 25 (0, 0)) (by (with_reducible repeat (first | refine blk_drewN ?_ _ | refine blk_drew ?_ | refine blk_alloc ?_ _)); refine blk_put (cs := #[.int .u64 t1753, .int .u64 0]) ?_ 1 _ rfl; (with_reducible repeat (first | refine blk_drewN ?_ _ | refine blk_drew ?_ | refine blk_alloc ?_ _)); refine blk_put (cs := #[.int .u64 0, .int .u64 0]) ?_ 0 _ rfl; (with_reducible repeat (first | refine blk_drewN ?_ _ | refine blk_drew ?_ | refine blk_alloc ?_ _)); exact BK1756.out) hb); have n2_ := Aside0.mk (below_step (by repeat (first | (with_reducible first | exact HB.out | apply below_alloc | apply pw_below_drewN | apply below_drew1 | refine below_set ?_ GE1730.out | refine below_set ?_ GE1756.out) | exact HB.out)) hb); clear BK1730; clear BK1756; clear HB; have BK1730 := n0_; have BK1756 := n1_; have HB := n2_; clear n0_ n1_ n2_; (try clear hb); (try clear hb2); (try clear hk); (try clear hi)) | ((with_reducible refine gate_dst (N := 7) rfl ?_); (try (refine gate_guard (by rfl) ?_; dsimp only)); refine box_event ?hg (N := 7) ?hd (cs := #[.int .u64 0, .int .u64 0]) (t := 25) ?hr ?_; (case hd => rfl); (case hg => rfl); (case hr => first | (go_simp; done) | (go_simp; rfl)); intro gb1770 hg w25 hbox hb; have n0_ := Aside0.mk (blk_below (g := gb1730) (o := .cells #[.int .u64 a0_0, .int .u64 a0_1] 25 (0, 0)) (by (with_reducible repeat (first | refine blk_drewN ?_ _ | refine blk_drew ?_ | refine blk_alloc ?_ _)); exact BK1730.out) hb); have n1_ := Aside0.mk (blk_below (g := gb1756) (o := .cells #[.int .u64 t1753, .int .u64 t1754] 25 (0, 0)) (by (with_reducible repeat (first | refine blk_drewN ?_ _ | refine blk_drew ?_ | refine blk_alloc ?_ _)); exact BK1756.out) hb); have n2_ := Aside0.mk (below_step (by repeat (first | (with_reducible first | exact HB.out | apply below_alloc | apply pw_below_drewN | apply below_drew1 | refine below_set ?_ GE1730.out | refine below_set ?_ GE1756.out) | exact HB.out)) hb); have n3_ := Aside0.mk (hbox); have n4_ := Aside0.mk ((by rw [hg]; exact (below_size (by repeat (first | (with_reducible first | exact HB.out | apply below_alloc | apply pw_below_drewN | apply below_drew1 | refine below_set ?_ GE1730.out | refine below_set ?_ GE1756.out) | exact HB.out))) : w.heap.size ≤ gb1770)); have n5_ := Aside0.mk ((by rw [hg]; exact (below_size (by repeat (first | (with_reducible first | exact HB.out | apply below_alloc | apply pw_below_drewN | apply below_drew1 | refine below_set ?_ GE1730.out | refine below_set ?_ GE1756.out) | exact HB.out))) : w.heap.size ≤ gb1770)); have n6_ := Aside0.mk ((by rw [hg]; exact Nat.ne_of_lt (blk_lt (g := gb1730) (o := .cells #[.int .u64 a0_0, .int .u64 a0_1] 25 (0, 0)) (by (with_reducible repeat (first | refine blk_drewN ?_ _ | refine blk_drew ?_ | refine blk_alloc ?_ _)); exact BK1730.out)) : gb1730 ≠ gb1770)); have n7_ := Aside0.mk ((by rw [hg]; exact Nat.ne_of_gt (blk_lt (g := gb1730) (o := .cells #[.int .u64 a0_0, .int .u64 a0_1] 25 (0, 0)) (by (with_reducible repeat (first | refine blk_drewN ?_ _ | refine blk_drew ?_ | refine blk_alloc ?_ _)); exact BK1730.out)) : gb1770 ≠ gb1730)); have n8_ := Aside0.mk ((by rw [hg]; exact Nat.ne_of_lt (blk_lt (g := gb1756) (o := .cells #[.int .u64 t1753, .int .u64 t1754] 25 (0, 0)) (by (with_reducible repeat (first | refine blk_drewN ?_ _ | refine blk_drew ?_ | refine blk_alloc ?_ _)); exact BK1756.out)) : gb1756 ≠ gb1770)); have n9_ := Aside0.mk ((by rw [hg]; exact Nat.ne_of_gt (blk_lt (g := gb1756) (o := .cells #[.int .u64 t1753, .int .u64 t1754] 25 (0, 0)) (by (with_reducible repeat (first | refine blk_drewN ?_ _ | refine blk_drew ?_ | refine blk_alloc ?_ _)); exact BK1756.out)) : gb1770 ≠ gb1756)); clear BK1730; clear BK1756; clear HB; have BK1730 := n0_; have BK1756 := n1_; have HB := n2_; have BK1770 := n3_; have GW1770 := n4_; have GE1770 := n5_; have NB1730_1770 := n6_; have NB1770_1730 := n7_; have NB1756_1770 := n8_; have NB1770_1756 := n9_; clear n0_ n1_ n2_ n3_ n4_ n5_ n6_ n7_ n8_ n9_; clear hb hbox hg; have hnb26 := NB1770_1730.out; have hnc26 := NB1730_1770.out; have hnb27 := NB1770_1756.out; have hnc27 := NB1756_1770.out; have hcz28_0 : w25.cell? ⟨gb1770, 0, none⟩ = some (.int .u64 0) := (blk_cell BK1770.out 0).trans rfl; have hcz28_1 : w25.cell? ⟨gb1770, 1, none⟩ = some (.int .u64 0) := (blk_cell BK1770.out 1).trans rfl; have hfz28_0 := blk_frozen BK1770.out 0; have hfz28_1 := blk_frozen BK1770.out 1) | ((with_reducible refine gate_callee (f := 78) rfl ?_); refine goesL_ (some 51) rfl rfl Try.func78 (by kernel_rfl) rfl #[.agg #[.int .u64 t1767, .int .u64 t1768]] rfl (by (try simp only [List.map_toArray, List.map_cons, List.map_nil]); first | done | rfl | (simp only [List.length_drop, List.length_take]; rfl)) ?_; (with_reducible refine (decimal_Text.calls t1767 t1768 t1771 _ A14.out).mono ?_); rintro e w29 ⟨rfl, hb⟩; refine ⟨_, rfl, ?_⟩; have n0_ := Aside0.mk (blk_below (g := gb1730) (o := .cells #[.int .u64 a0_0, .int .u64 a0_1] 25 (0, 0)) (by (with_reducible repeat (first | refine blk_drewN ?_ _ | refine blk_drew ?_ | refine blk_alloc ?_ _)); refine blk_far ?_ NB1730_1770.out _; (with_reducible repeat (first | refine blk_drewN ?_ _ | refine blk_drew ?_ | refine blk_alloc ?_ _)); refine blk_far ?_ NB1730_1770.out _; (with_reducible repeat (first | refine blk_drewN ?_ _ | refine blk_drew ?_ | refine blk_alloc ?_ _)); exact BK1730.out) hb); have n1_ := Aside0.mk (blk_below (g := gb1756) (o := .cells #[.int .u64 t1753, .int .u64 t1754] 25 (0, 0)) (by (with_reducible repeat (first | refine blk_drewN ?_ _ | refine blk_drew ?_ | refine blk_alloc ?_ _)); refine blk_far ?_ NB1756_1770.out _; (with_reducible repeat (first | refine blk_drewN ?_ _ | refine blk_drew ?_ | refine blk_alloc ?_ _)); refine blk_far ?_ NB1756_1770.out _; (with_reducible repeat (first | refine blk_drewN ?_ _ | refine blk_drew ?_ | refine blk_alloc ?_ _)); exact BK1756.out) hb); have n2_ := Aside0.mk (blk_below (g := gb1770) (o := .cells #[.int .u64 t1767, .int .u64 t1768] 25 (0, 0)) (by (with_reducible repeat (first | refine blk_drewN ?_ _ | refine blk_drew ?_ | refine blk_alloc ?_ _)); refine blk_put (cs := #[.int .u64 t1767, .int .u64 0]) ?_ 1 _ rfl; (with_reducible repeat (first | refine blk_drewN ?_ _ | refine blk_drew ?_ | refine blk_alloc ?_ _)); refine blk_put (cs := #[.int .u64 0, .int .u64 0]) ?_ 0 _ rfl; (with_reducible repeat (first | refine blk_drewN ?_ _ | refine blk_drew ?_ | refine blk_alloc ?_ _)); exact BK1770.out) hb); have n3_ := Aside0.mk (below_step (by repeat (first | (with_reducible first | exact HB.out | apply below_alloc | apply pw_below_drewN | apply below_drew1 | refine below_set ?_ GE1730.out | refine below_set ?_ GE1756.out | refine below_set ?_ GE1770.out) | exact HB.out)) hb); clear BK1730; clear BK1756; clear BK1770; clear HB; have BK1730 := n0_; have BK1756 := n1_; have BK1770 := n2_; have HB := n3_; clear n0_ n1_ n2_ n3_; (try clear hb); (try clear hb2); (try clear hk); (try clear hi)))
            go_ret
            exact ⟨by first | rfl | (simp [errW_none, errW_some] <;> rfl) | (simp [*, errW_none, errW_some] <;> rfl), by repeat (first | (with_reducible first | exact HB.out | apply below_alloc | apply pw_below_drewN | apply below_drew1 | refine below_set ?_ GE1730.out | refine below_set ?_ GE1756.out | refine below_set ?_ GE1770.out) | exact HB.out)⟩
          · rw [if_neg c13] at H
            have c13b0 : (t1769 == 0) = false := beq_eq_false_iff_ne.mpr c13
            have c13b1 : (t1769 != 0) = true := bne_iff_ne.mpr c13
            by_cases c30 : t1769 = 20
            · rw [if_pos c30] at H
              have c30b0 : (t1769 == 20) = true := beq_iff_eq.mpr c30
              have c30b1 : (t1769 != 20) = false := bne_eq_false_iff_eq.mpr c30
              clear c30
              obtain rfl := Option.some.inj H
              go_enter Try.func20, Try.ntmps20
              go_wp2_with (first | ((with_reducible refine gate_dst (N := 2) rfl ?_); (try (refine gate_guard (by rfl) ?_; dsimp only)); refine box_event ?hg (N := 2) ?hd (cs := #[.int .u64 a0_0, .int .u64 a0_1]) (t := 25) ?hr ?_; (case hd => rfl); (case hg => rfl); (case hr => first | (go_simp; done) | (go_simp; rfl)); intro gb1730 hg w31 hbox hb; have n0_ := Aside0.mk (below_step (by repeat (first | (with_reducible first | exact HB.out | apply below_alloc | apply pw_below_drewN | apply below_drew1) | exact HB.out)) hb); have n1_ := Aside0.mk (hbox); have n2_ := Aside0.mk ((by rw [hg]; exact (below_size (by repeat (first | (with_reducible first | exact HB.out | apply below_alloc | apply pw_below_drewN | apply below_drew1) | exact HB.out))) : w.heap.size ≤ gb1730)); have n3_ := Aside0.mk ((by rw [hg]; exact (below_size (by repeat (first | (with_reducible first | exact HB.out | apply below_alloc | apply pw_below_drewN | apply below_drew1) | exact HB.out))) : w.heap.size ≤ gb1730)); clear HB; have HB := n0_; have BK1730 := n1_; have GW1730 := n2_; have GE1730 := n3_; clear n0_ n1_ n2_ n3_; clear hb hbox hg) | ((with_reducible refine gate_callee (f := 81) rfl ?_); refine goesL_ (some 9) rfl rfl Try.func81 (by kernel_rfl) rfl #[] rfl (by (try simp only [List.map_toArray, List.map_cons, List.map_nil]); first | done | rfl | (simp only [List.length_drop, List.length_take]; rfl)) ?_; (with_reducible refine (paymasterlaw02_awake.calls k  true _ A3.out).mono ?_); rintro e w32 ⟨rfl, hb⟩; refine ⟨_, rfl, ?_⟩; have n0_ := Aside0.mk (blk_below (g := gb1730) (o := .cells #[.int .u64 a0_0, .int .u64 a0_1] 25 (0, 0)) (by (with_reducible repeat (first | refine blk_drewN ?_ _ | refine blk_drew ?_ | refine blk_alloc ?_ _)); exact BK1730.out) hb); have n1_ := Aside0.mk (below_step (by repeat (first | (with_reducible first | exact HB.out | apply below_alloc | apply pw_below_drewN | apply below_drew1 | refine below_set ?_ GE1730.out) | exact HB.out)) hb); clear BK1730; clear HB; have BK1730 := n0_; have HB := n1_; clear n0_ n1_; (try clear hb); (try clear hb2); (try clear hk); (try clear hi); have hcz33_0 : w32.cell? ⟨gb1730, 0, none⟩ = some (.int .u64 a0_0) := (blk_cell BK1730.out 0).trans rfl; have hcz33_1 : w32.cell? ⟨gb1730, 1, none⟩ = some (.int .u64 a0_1) := (blk_cell BK1730.out 1).trans rfl; have hfz33_0 := blk_frozen BK1730.out 0; have hfz33_1 := blk_frozen BK1730.out 1) | ((with_reducible refine gate_callee (f := 78) rfl ?_); refine goesL_ (some 16) rfl rfl Try.func78 (by kernel_rfl) rfl #[.agg #[.int .u64 a0_0, .int .u64 a0_1]] rfl (by (try simp only [List.map_toArray, List.map_cons, List.map_nil]); first | done | rfl | (simp only [List.length_drop, List.length_take]; rfl)) ?_; (with_reducible refine (decimal_Text.calls a0_0 a0_1 t1752 _ A8.out).mono ?_); rintro e w34 ⟨rfl, hb⟩; refine ⟨_, rfl, ?_⟩; have n0_ := Aside0.mk (blk_below (g := gb1730) (o := .cells #[.int .u64 a0_0, .int .u64 a0_1] 25 (0, 0)) (by (with_reducible repeat (first | refine blk_drewN ?_ _ | refine blk_drew ?_ | refine blk_alloc ?_ _)); exact BK1730.out) hb); have n1_ := Aside0.mk (below_step (by repeat (first | (with_reducible first | exact HB.out | apply below_alloc | apply pw_below_drewN | apply below_drew1 | refine below_set ?_ GE1730.out) | exact HB.out)) hb); clear BK1730; clear HB; have BK1730 := n0_; have HB := n1_; clear n0_ n1_; (try clear hb); (try clear hb2); (try clear hk); (try clear hi)) | ((with_reducible refine gate_callee (f := 76) rfl ?_); refine goesL_ (some 17) rfl rfl Try.func76 (by kernel_rfl) rfl #[.string t1752] rfl (by (try simp only [List.map_toArray, List.map_cons, List.map_nil]); first | done | rfl | (simp only [List.length_drop, List.length_take]; rfl)) ?_; (with_reducible refine (decimal_Parse.calls t1752 t1753 t1754 t1755 _ A9.out).mono ?_); rintro e w35 ⟨rfl, hb⟩; refine ⟨_, rfl, ?_⟩; have n0_ := Aside0.mk (blk_below (g := gb1730) (o := .cells #[.int .u64 a0_0, .int .u64 a0_1] 25 (0, 0)) (by (with_reducible repeat (first | refine blk_drewN ?_ _ | refine blk_drew ?_ | refine blk_alloc ?_ _)); exact BK1730.out) hb); have n1_ := Aside0.mk (below_step (by repeat (first | (with_reducible first | exact HB.out | apply below_alloc | apply pw_below_drewN | apply below_drew1 | refine below_set ?_ GE1730.out) | exact HB.out)) hb); clear BK1730; clear HB; have BK1730 := n0_; have HB := n1_; clear n0_ n1_; (try clear hb); (try clear hb2); (try clear hk); (try clear hi)) | ((with_reducible refine gate_dst (N := 5) rfl ?_); (try (refine gate_guard (by rfl) ?_; dsimp only)); refine box_event ?hg (N := 5) ?hd (cs := #[.int .u64 0, .int .u64 0]) (t := 25) ?hr ?_; (case hd => rfl); (case hg => rfl); (case hr => first | (go_simp; done) | (go_simp; rfl)); intro gb1756 hg w36 hbox hb; have n0_ := Aside0.mk (blk_below (g := gb1730) (o := .cells #[.int .u64 a0_0, .int .u64 a0_1] 25 (0, 0)) (by (with_reducible repeat (first | refine blk_drewN ?_ _ | refine blk_drew ?_ | refine blk_alloc ?_ _)); exact BK1730.out) hb); have n1_ := Aside0.mk (below_step (by repeat (first | (with_reducible first | exact HB.out | apply below_alloc | apply pw_below_drewN | apply below_drew1 | refine below_set ?_ GE1730.out) | exact HB.out)) hb); have n2_ := Aside0.mk (hbox); have n3_ := Aside0.mk ((by rw [hg]; exact (below_size (by repeat (first | (with_reducible first | exact HB.out | apply below_alloc | apply pw_below_drewN | apply below_drew1 | refine below_set ?_ GE1730.out) | exact HB.out))) : w.heap.size ≤ gb1756)); have n4_ := Aside0.mk ((by rw [hg]; exact (below_size (by repeat (first | (with_reducible first | exact HB.out | apply below_alloc | apply pw_below_drewN | apply below_drew1 | refine below_set ?_ GE1730.out) | exact HB.out))) : w.heap.size ≤ gb1756)); have n5_ := Aside0.mk ((by rw [hg]; exact Nat.ne_of_lt (blk_lt (g := gb1730) (o := .cells #[.int .u64 a0_0, .int .u64 a0_1] 25 (0, 0)) (by (with_reducible repeat (first | refine blk_drewN ?_ _ | refine blk_drew ?_ | refine blk_alloc ?_ _)); exact BK1730.out)) : gb1730 ≠ gb1756)); have n6_ := Aside0.mk ((by rw [hg]; exact Nat.ne_of_gt (blk_lt (g := gb1730) (o := .cells #[.int .u64 a0_0, .int .u64 a0_1] 25 (0, 0)) (by (with_reducible repeat (first | refine blk_drewN ?_ _ | refine blk_drew ?_ | refine blk_alloc ?_ _)); exact BK1730.out)) : gb1756 ≠ gb1730)); clear BK1730; clear HB; have BK1730 := n0_; have HB := n1_; have BK1756 := n2_; have GW1756 := n3_; have GE1756 := n4_; have NB1730_1756 := n5_; have NB1756_1730 := n6_; clear n0_ n1_ n2_ n3_ n4_ n5_ n6_; clear hb hbox hg; have hnb37 := NB1756_1730.out; have hnc37 := NB1730_1756.out; have hcz38_0 : w36.cell? ⟨gb1756, 0, none⟩ = some (.int .u64 0) := (blk_cell BK1756.out 0).trans rfl; have hcz38_1 : w36.cell? ⟨gb1756, 1, none⟩ = some (.int .u64 0) := (blk_cell BK1756.out 1).trans rfl; have hfz38_0 := blk_frozen BK1756.out 0; have hfz38_1 := blk_frozen BK1756.out 1; have hcz39_0 : w36.cell? ⟨gb1730, 0, none⟩ = some (.int .u64 a0_0) := (blk_cell BK1730.out 0).trans rfl; have hcz39_1 : w36.cell? ⟨gb1730, 1, none⟩ = some (.int .u64 a0_1) := (blk_cell BK1730.out 1).trans rfl; have hfz39_0 := blk_frozen BK1730.out 0; have hfz39_1 := blk_frozen BK1730.out 1) | ((with_reducible refine gate_callee (f := 76) rfl ?_); refine goesL_ (some 29) rfl rfl Try.func76 (by kernel_rfl) rfl #[.string a1] rfl (by (try simp only [List.map_toArray, List.map_cons, List.map_nil]); first | done | rfl | (simp only [List.length_drop, List.length_take]; rfl)) ?_; (with_reducible refine (decimal_Parse.calls a1 t1767 t1768 t1769 _ A12.out).mono ?_); rintro e w40 ⟨rfl, hb⟩; refine ⟨_, rfl, ?_⟩; have n0_ := Aside0.mk (blk_below (g := gb1730) (o := .cells #[.int .u64 a0_0, .int .u64 a0_1] 25 (0, 0)) (by (with_reducible repeat (first | refine blk_drewN ?_ _ | refine blk_drew ?_ | refine blk_alloc ?_ _)); refine blk_far ?_ NB1730_1756.out _; (with_reducible repeat (first | refine blk_drewN ?_ _ | refine blk_drew ?_ | refine blk_alloc ?_ _)); refine blk_far ?_ NB1730_1756.out _; (with_reducible repeat (first | refine blk_drewN ?_ _ | refine blk_drew ?_ | refine blk_alloc ?_ _)); exact BK1730.out) hb); have n1_ := Aside0.mk (blk_below (g := gb1756) (o := .cells #[.int .u64 t1753, .int .u64 t1754] 25 (0, 0)) (by (with_reducible repeat (first | refine blk_drewN ?_ _ | refine blk_drew ?_ | refine blk_alloc ?_ _)); refine blk_put (cs := #[.int .u64 t1753, .int .u64 0]) ?_ 1 _ rfl; (with_reducible repeat (first | refine blk_drewN ?_ _ | refine blk_drew ?_ | refine blk_alloc ?_ _)); refine blk_put (cs := #[.int .u64 0, .int .u64 0]) ?_ 0 _ rfl; (with_reducible repeat (first | refine blk_drewN ?_ _ | refine blk_drew ?_ | refine blk_alloc ?_ _)); exact BK1756.out) hb); have n2_ := Aside0.mk (below_step (by repeat (first | (with_reducible first | exact HB.out | apply below_alloc | apply pw_below_drewN | apply below_drew1 | refine below_set ?_ GE1730.out | refine below_set ?_ GE1756.out) | exact HB.out)) hb); clear BK1730; clear BK1756; clear HB; have BK1730 := n0_; have BK1756 := n1_; have HB := n2_; clear n0_ n1_ n2_; (try clear hb); (try clear hb2); (try clear hk); (try clear hi)) | ((with_reducible refine gate_dst (N := 7) rfl ?_); (try (refine gate_guard (by rfl) ?_; dsimp only)); refine box_event ?hg (N := 7) ?hd (cs := #[.int .u64 0, .int .u64 0]) (t := 25) ?hr ?_; (case hd => rfl); (case hg => rfl); (case hr => first | (go_simp; done) | (go_simp; rfl)); intro gb1770 hg w41 hbox hb; have n0_ := Aside0.mk (blk_below (g := gb1730) (o := .cells #[.int .u64 a0_0, .int .u64 a0_1] 25 (0, 0)) (by (with_reducible repeat (first | refine blk_drewN ?_ _ | refine blk_drew ?_ | refine blk_alloc ?_ _)); exact BK1730.out) hb); have n1_ := Aside0.mk (blk_below (g := gb1756) (o := .cells #[.int .u64 t1753, .int .u64 t1754] 25 (0, 0)) (by (with_reducible repeat (first | refine blk_drewN ?_ _ | refine blk_drew ?_ | refine blk_alloc ?_ _)); exact BK1756.out) hb); have n2_ := Aside0.mk (below_step (by repeat (first | (with_reducible first | exact HB.out | apply below_alloc | apply pw_below_drewN | apply below_drew1 | refine below_set ?_ GE1730.out | refine below_set ?_ GE1756.out) | exact HB.out)) hb); have n3_ := Aside0.mk (hbox); have n4_ := Aside0.mk ((by rw [hg]; exact (below_size (by repeat (first | (with_reducible first | exact HB.out | apply below_alloc | apply pw_below_drewN | apply below_drew1 | refine below_set ?_ GE1730.out | refine below_set ?_ GE1756.out) | exact HB.out))) : w.heap.size ≤ gb1770)); have n5_ := Aside0.mk ((by rw [hg]; exact (below_size (by repeat (first | (with_reducible first | exact HB.out | apply below_alloc | apply pw_below_drewN | apply below_drew1 | refine below_set ?_ GE1730.out | refine below_set ?_ GE1756.out) | exact HB.out))) : w.heap.size ≤ gb1770)); have n6_ := Aside0.mk ((by rw [hg]; exact Nat.ne_of_lt (blk_lt (g := gb1730) (o := .cells #[.int .u64 a0_0, .int .u64 a0_1] 25 (0, 0)) (by (with_reducible repeat (first | refine blk_drewN ?_ _ | refine blk_drew ?_ | refine blk_alloc ?_ _)); exact BK1730.out)) : gb1730 ≠ gb1770)); have n7_ := Aside0.mk ((by rw [hg]; exact Nat.ne_of_gt (blk_lt (g := gb1730) (o := .cells #[.int .u64 a0_0, .int .u64 a0_1] 25 (0, 0)) (by (with_reducible repeat (first | refine blk_drewN ?_ _ | refine blk_drew ?_ | refine blk_alloc ?_ _)); exact BK1730.out)) : gb1770 ≠ gb1730)); have n8_ := Aside0.mk ((by rw [hg]; exact Nat.ne_of_lt (blk_lt (g := gb1756) (o := .cells #[.int .u64 t1753, .int .u64 t1754] 25 (0, 0)) (by (with_reducible repeat (first | refine blk_drewN ?_ _ | refine blk_drew ?_ | refine blk_alloc ?_ _)); exact BK1756.out)) : gb1756 ≠ gb1770)); have n9_ := Aside0.mk ((by rw [hg]; exact Nat.ne_of_gt (blk_lt (g := gb1756) (o := .cells #[.int .u64 t1753, .int .u64 t1754] 25 (0, 0)) (by (with_reducible repeat (first | refine blk_drewN ?_ _ | refine blk_drew ?_ | refine blk_alloc ?_ _)); exact BK1756.out)) : gb1770 ≠ gb1756)); clear BK1730; clear BK1756; clear HB; have BK1730 := n0_; have BK1756 := n1_; have HB := n2_; have BK1770 := n3_; have GW1770 := n4_; have GE1770 := n5_; have NB1730_1770 := n6_; have NB1770_1730 := n7_; have NB1756_1770 := n8_; have NB1770_1756 := n9_; clear n0_ n1_ n2_ n3_ n4_ n5_ n6_ n7_ n8_ n9_; clear hb hbox hg; have hnb42 := NB1770_1730.out; have hnc42 := NB1730_1770.out; have hnb43 := NB1770_1756.out; have hnc43 := NB1756_1770.out; have hcz44_0 : w41.cell? ⟨gb1770, 0, none⟩ = some (.int .u64 0) := (blk_cell BK1770.out 0).trans rfl; have hcz44_1 : w41.cell? ⟨gb1770, 1, none⟩ = some (.int .u64 0) := (blk_cell BK1770.out 1).trans rfl; have hfz44_0 := blk_frozen BK1770.out 0; have hfz44_1 := blk_frozen BK1770.out 1))
              go_ret
              exact ⟨by first | rfl | (simp [errW_none, errW_some] <;> rfl) | (simp [*, errW_none, errW_some] <;> rfl), by repeat (first | (with_reducible first | exact HB.out | apply below_alloc | apply pw_below_drewN | apply below_drew1 | refine below_set ?_ GE1730.out | refine below_set ?_ GE1756.out | refine below_set ?_ GE1770.out) | exact HB.out)⟩
            · rw [if_neg c30] at H
              have c30b0 : (t1769 == 20) = false := beq_eq_false_iff_ne.mpr c30
              have c30b1 : (t1769 != 20) = true := bne_iff_ne.mpr c30
              by_cases c45 : t1769 = 10
              · rw [if_pos c45] at H
                have c45b0 : (t1769 == 10) = true := beq_iff_eq.mpr c45
                have c45b1 : (t1769 != 10) = false := bne_eq_false_iff_eq.mpr c45
                clear c45
                by_cases c46 : (a1.size : Int) ≥ 39
                · rw [if_pos c46] at H
                  have c46b0 : decide (39 ≤ (a1.size : Int)) = true := decide_eq_true c46
                  have c46b1 : decide (39 ≤ a1.size) = true := decide_eq_true (by omega)
                  clear c46
                  obtain rfl := Option.some.inj H
                  go_enter Try.func20, Try.ntmps20
                  go_wp2_with (first | ((with_reducible refine gate_dst (N := 2) rfl ?_); (try (refine gate_guard (by rfl) ?_; dsimp only)); refine box_event ?hg (N := 2) ?hd (cs := #[.int .u64 a0_0, .int .u64 a0_1]) (t := 25) ?hr ?_; (case hd => rfl); (case hg => rfl); (case hr => first | (go_simp; done) | (go_simp; rfl)); intro gb1730 hg w47 hbox hb; have n0_ := Aside0.mk (below_step (by repeat (first | (with_reducible first | exact HB.out | apply below_alloc | apply pw_below_drewN | apply below_drew1) | exact HB.out)) hb); have n1_ := Aside0.mk (hbox); have n2_ := Aside0.mk ((by rw [hg]; exact (below_size (by repeat (first | (with_reducible first | exact HB.out | apply below_alloc | apply pw_below_drewN | apply below_drew1) | exact HB.out))) : w.heap.size ≤ gb1730)); have n3_ := Aside0.mk ((by rw [hg]; exact (below_size (by repeat (first | (with_reducible first | exact HB.out | apply below_alloc | apply pw_below_drewN | apply below_drew1) | exact HB.out))) : w.heap.size ≤ gb1730)); clear HB; have HB := n0_; have BK1730 := n1_; have GW1730 := n2_; have GE1730 := n3_; clear n0_ n1_ n2_ n3_; clear hb hbox hg) | ((with_reducible refine gate_callee (f := 81) rfl ?_); refine goesL_ (some 9) rfl rfl Try.func81 (by kernel_rfl) rfl #[] rfl (by (try simp only [List.map_toArray, List.map_cons, List.map_nil]); first | done | rfl | (simp only [List.length_drop, List.length_take]; rfl)) ?_; (with_reducible refine (paymasterlaw02_awake.calls k  true _ A3.out).mono ?_); rintro e w48 ⟨rfl, hb⟩; refine ⟨_, rfl, ?_⟩; have n0_ := Aside0.mk (blk_below (g := gb1730) (o := .cells #[.int .u64 a0_0, .int .u64 a0_1] 25 (0, 0)) (by (with_reducible repeat (first | refine blk_drewN ?_ _ | refine blk_drew ?_ | refine blk_alloc ?_ _)); exact BK1730.out) hb); have n1_ := Aside0.mk (below_step (by repeat (first | (with_reducible first | exact HB.out | apply below_alloc | apply pw_below_drewN | apply below_drew1 | refine below_set ?_ GE1730.out) | exact HB.out)) hb); clear BK1730; clear HB; have BK1730 := n0_; have HB := n1_; clear n0_ n1_; (try clear hb); (try clear hb2); (try clear hk); (try clear hi); have hcz49_0 : w48.cell? ⟨gb1730, 0, none⟩ = some (.int .u64 a0_0) := (blk_cell BK1730.out 0).trans rfl; have hcz49_1 : w48.cell? ⟨gb1730, 1, none⟩ = some (.int .u64 a0_1) := (blk_cell BK1730.out 1).trans rfl; have hfz49_0 := blk_frozen BK1730.out 0; have hfz49_1 := blk_frozen BK1730.out 1) | ((with_reducible refine gate_callee (f := 78) rfl ?_); refine goesL_ (some 16) rfl rfl Try.func78 (by kernel_rfl) rfl #[.agg #[.int .u64 a0_0, .int .u64 a0_1]] rfl (by (try simp only [List.map_toArray, List.map_cons, List.map_nil]); first | done | rfl | (simp only [List.length_drop, List.length_take]; rfl)) ?_; (with_reducible refine (decimal_Text.calls a0_0 a0_1 t1752 _ A8.out).mono ?_); rintro e w50 ⟨rfl, hb⟩; refine ⟨_, rfl, ?_⟩; have n0_ := Aside0.mk (blk_below (g := gb1730) (o := .cells #[.int .u64 a0_0, .int .u64 a0_1] 25 (0, 0)) (by (with_reducible repeat (first | refine blk_drewN ?_ _ | refine blk_drew ?_ | refine blk_alloc ?_ _)); exact BK1730.out) hb); have n1_ := Aside0.mk (below_step (by repeat (first | (with_reducible first | exact HB.out | apply below_alloc | apply pw_below_drewN | apply below_drew1 | refine below_set ?_ GE1730.out) | exact HB.out)) hb); clear BK1730; clear HB; have BK1730 := n0_; have HB := n1_; clear n0_ n1_; (try clear hb); (try clear hb2); (try clear hk); (try clear hi)) | ((with_reducible refine gate_callee (f := 76) rfl ?_); refine goesL_ (some 17) rfl rfl Try.func76 (by kernel_rfl) rfl #[.string t1752] rfl (by (try simp only [List.map_toArray, List.map_cons, List.map_nil]); first | done | rfl | (simp only [List.length_drop, List.length_take]; rfl)) ?_; (with_reducible refine (decimal_Parse.calls t1752 t1753 t1754 t1755 _ A9.out).mono ?_); rintro e w51 ⟨rfl, hb⟩; refine ⟨_, rfl, ?_⟩; have n0_ := Aside0.mk (blk_below (g := gb1730) (o := .cells #[.int .u64 a0_0, .int .u64 a0_1] 25 (0, 0)) (by (with_reducible repeat (first | refine blk_drewN ?_ _ | refine blk_drew ?_ | refine blk_alloc ?_ _)); exact BK1730.out) hb); have n1_ := Aside0.mk (below_step (by repeat (first | (with_reducible first | exact HB.out | apply below_alloc | apply pw_below_drewN | apply below_drew1 | refine below_set ?_ GE1730.out) | exact HB.out)) hb); clear BK1730; clear HB; have BK1730 := n0_; have HB := n1_; clear n0_ n1_; (try clear hb); (try clear hb2); (try clear hk); (try clear hi)) | ((with_reducible refine gate_dst (N := 5) rfl ?_); (try (refine gate_guard (by rfl) ?_; dsimp only)); refine box_event ?hg (N := 5) ?hd (cs := #[.int .u64 0, .int .u64 0]) (t := 25) ?hr ?_; (case hd => rfl); (case hg => rfl); (case hr => first | (go_simp; done) | (go_simp; rfl)); intro gb1756 hg w52 hbox hb; have n0_ := Aside0.mk (blk_below (g := gb1730) (o := .cells #[.int .u64 a0_0, .int .u64 a0_1] 25 (0, 0)) (by (with_reducible repeat (first | refine blk_drewN ?_ _ | refine blk_drew ?_ | refine blk_alloc ?_ _)); exact BK1730.out) hb); have n1_ := Aside0.mk (below_step (by repeat (first | (with_reducible first | exact HB.out | apply below_alloc | apply pw_below_drewN | apply below_drew1 | refine below_set ?_ GE1730.out) | exact HB.out)) hb); have n2_ := Aside0.mk (hbox); have n3_ := Aside0.mk ((by rw [hg]; exact (below_size (by repeat (first | (with_reducible first | exact HB.out | apply below_alloc | apply pw_below_drewN | apply below_drew1 | refine below_set ?_ GE1730.out) | exact HB.out))) : w.heap.size ≤ gb1756)); have n4_ := Aside0.mk ((by rw [hg]; exact (below_size (by repeat (first | (with_reducible first | exact HB.out | apply below_alloc | apply pw_below_drewN | apply below_drew1 | refine below_set ?_ GE1730.out) | exact HB.out))) : w.heap.size ≤ gb1756)); have n5_ := Aside0.mk ((by rw [hg]; exact Nat.ne_of_lt (blk_lt (g := gb1730) (o := .cells #[.int .u64 a0_0, .int .u64 a0_1] 25 (0, 0)) (by (with_reducible repeat (first | refine blk_drewN ?_ _ | refine blk_drew ?_ | refine blk_alloc ?_ _)); exact BK1730.out)) : gb1730 ≠ gb1756)); have n6_ := Aside0.mk ((by rw [hg]; exact Nat.ne_of_gt (blk_lt (g := gb1730) (o := .cells #[.int .u64 a0_0, .int .u64 a0_1] 25 (0, 0)) (by (with_reducible repeat (first | refine blk_drewN ?_ _ | refine blk_drew ?_ | refine blk_alloc ?_ _)); exact BK1730.out)) : gb1756 ≠ gb1730)); clear BK1730; clear HB; have BK1730 := n0_; have HB := n1_; have BK1756 := n2_; have GW1756 := n3_; have GE1756 := n4_; have NB1730_1756 := n5_; have NB1756_1730 := n6_; clear n0_ n1_ n2_ n3_ n4_ n5_ n6_; clear hb hbox hg; have hnb53 := NB1756_1730.out; have hnc53 := NB1730_1756.out; have hcz54_0 : w52.cell? ⟨gb1756, 0, none⟩ = some (.int .u64 0) := (blk_cell BK1756.out 0).trans rfl; have hcz54_1 : w52.cell? ⟨gb1756, 1, none⟩ = some (.int .u64 0) := (blk_cell BK1756.out 1).trans rfl; have hfz54_0 := blk_frozen BK1756.out 0; have hfz54_1 := blk_frozen BK1756.out 1; have hcz55_0 : w52.cell? ⟨gb1730, 0, none⟩ = some (.int .u64 a0_0) := (blk_cell BK1730.out 0).trans rfl; have hcz55_1 : w52.cell? ⟨gb1730, 1, none⟩ = some (.int .u64 a0_1) := (blk_cell BK1730.out 1).trans rfl; have hfz55_0 := blk_frozen BK1730.out 0; have hfz55_1 := blk_frozen BK1730.out 1) | ((with_reducible refine gate_callee (f := 76) rfl ?_); refine goesL_ (some 29) rfl rfl Try.func76 (by kernel_rfl) rfl #[.string a1] rfl (by (try simp only [List.map_toArray, List.map_cons, List.map_nil]); first | done | rfl | (simp only [List.length_drop, List.length_take]; rfl)) ?_; (with_reducible refine (decimal_Parse.calls a1 t1767 t1768 t1769 _ A12.out).mono ?_); rintro e w56 ⟨rfl, hb⟩; refine ⟨_, rfl, ?_⟩; have n0_ := Aside0.mk (blk_below (g := gb1730) (o := .cells #[.int .u64 a0_0, .int .u64 a0_1] 25 (0, 0)) (by (with_reducible repeat (first | refine blk_drewN ?_ _ | refine blk_drew ?_ | refine blk_alloc ?_ _)); refine blk_far ?_ NB1730_1756.out _; (with_reducible repeat (first | refine blk_drewN ?_ _ | refine blk_drew ?_ | refine blk_alloc ?_ _)); refine blk_far ?_ NB1730_1756.out _; (with_reducible repeat (first | refine blk_drewN ?_ _ | refine blk_drew ?_ | refine blk_alloc ?_ _)); exact BK1730.out) hb); have n1_ := Aside0.mk (blk_below (g := gb1756) (o := .cells #[.int .u64 t1753, .int .u64 t1754] 25 (0, 0)) (by (with_reducible repeat (first | refine blk_drewN ?_ _ | refine blk_drew ?_ | refine blk_alloc ?_ _)); refine blk_put (cs := #[.int .u64 t1753, .int .u64 0]) ?_ 1 _ rfl; (with_reducible repeat (first | refine blk_drewN ?_ _ | refine blk_drew ?_ | refine blk_alloc ?_ _)); refine blk_put (cs := #[.int .u64 0, .int .u64 0]) ?_ 0 _ rfl; (with_reducible repeat (first | refine blk_drewN ?_ _ | refine blk_drew ?_ | refine blk_alloc ?_ _)); exact BK1756.out) hb); have n2_ := Aside0.mk (below_step (by repeat (first | (with_reducible first | exact HB.out | apply below_alloc | apply pw_below_drewN | apply below_drew1 | refine below_set ?_ GE1730.out | refine below_set ?_ GE1756.out) | exact HB.out)) hb); clear BK1730; clear BK1756; clear HB; have BK1730 := n0_; have BK1756 := n1_; have HB := n2_; clear n0_ n1_ n2_; (try clear hb); (try clear hb2); (try clear hk); (try clear hi)) | ((with_reducible refine gate_dst (N := 7) rfl ?_); (try (refine gate_guard (by rfl) ?_; dsimp only)); refine box_event ?hg (N := 7) ?hd (cs := #[.int .u64 0, .int .u64 0]) (t := 25) ?hr ?_; (case hd => rfl); (case hg => rfl); (case hr => first | (go_simp; done) | (go_simp; rfl)); intro gb1770 hg w57 hbox hb; have n0_ := Aside0.mk (blk_below (g := gb1730) (o := .cells #[.int .u64 a0_0, .int .u64 a0_1] 25 (0, 0)) (by (with_reducible repeat (first | refine blk_drewN ?_ _ | refine blk_drew ?_ | refine blk_alloc ?_ _)); exact BK1730.out) hb); have n1_ := Aside0.mk (blk_below (g := gb1756) (o := .cells #[.int .u64 t1753, .int .u64 t1754] 25 (0, 0)) (by (with_reducible repeat (first | refine blk_drewN ?_ _ | refine blk_drew ?_ | refine blk_alloc ?_ _)); exact BK1756.out) hb); have n2_ := Aside0.mk (below_step (by repeat (first | (with_reducible first | exact HB.out | apply below_alloc | apply pw_below_drewN | apply below_drew1 | refine below_set ?_ GE1730.out | refine below_set ?_ GE1756.out) | exact HB.out)) hb); have n3_ := Aside0.mk (hbox); have n4_ := Aside0.mk ((by rw [hg]; exact (below_size (by repeat (first | (with_reducible first | exact HB.out | apply below_alloc | apply pw_below_drewN | apply below_drew1 | refine below_set ?_ GE1730.out | refine below_set ?_ GE1756.out) | exact HB.out))) : w.heap.size ≤ gb1770)); have n5_ := Aside0.mk ((by rw [hg]; exact (below_size (by repeat (first | (with_reducible first | exact HB.out | apply below_alloc | apply pw_below_drewN | apply below_drew1 | refine below_set ?_ GE1730.out | refine below_set ?_ GE1756.out) | exact HB.out))) : w.heap.size ≤ gb1770)); have n6_ := Aside0.mk ((by rw [hg]; exact Nat.ne_of_lt (blk_lt (g := gb1730) (o := .cells #[.int .u64 a0_0, .int .u64 a0_1] 25 (0, 0)) (by (with_reducible repeat (first | refine blk_drewN ?_ _ | refine blk_drew ?_ | refine blk_alloc ?_ _)); exact BK1730.out)) : gb1730 ≠ gb1770)); have n7_ := Aside0.mk ((by rw [hg]; exact Nat.ne_of_gt (blk_lt (g := gb1730) (o := .cells #[.int .u64 a0_0, .int .u64 a0_1] 25 (0, 0)) (by (with_reducible repeat (first | refine blk_drewN ?_ _ | refine blk_drew ?_ | refine blk_alloc ?_ _)); exact BK1730.out)) : gb1770 ≠ gb1730)); have n8_ := Aside0.mk ((by rw [hg]; exact Nat.ne_of_lt (blk_lt (g := gb1756) (o := .cells #[.int .u64 t1753, .int .u64 t1754] 25 (0, 0)) (by (with_reducible repeat (first | refine blk_drewN ?_ _ | refine blk_drew ?_ | refine blk_alloc ?_ _)); exact BK1756.out)) : gb1756 ≠ gb1770)); have n9_ := Aside0.mk ((by rw [hg]; exact Nat.ne_of_gt (blk_lt (g := gb1756) (o := .cells #[.int .u64 t1753, .int .u64 t1754] 25 (0, 0)) (by (with_reducible repeat (first | refine blk_drewN ?_ _ | refine blk_drew ?_ | refine blk_alloc ?_ _)); exact BK1756.out)) : gb1770 ≠ gb1756)); clear BK1730; clear BK1756; clear HB; have BK1730 := n0_; have BK1756 := n1_; have HB := n2_; have BK1770 := n3_; have GW1770 := n4_; have GE1770 := n5_; have NB1730_1770 := n6_; have NB1770_1730 := n7_; have NB1756_1770 := n8_; have NB1770_1756 := n9_; clear n0_ n1_ n2_ n3_ n4_ n5_ n6_ n7_ n8_ n9_; clear hb hbox hg; have hnb58 := NB1770_1730.out; have hnc58 := NB1730_1770.out; have hnb59 := NB1770_1756.out; have hnc59 := NB1756_1770.out; have hcz60_0 : w57.cell? ⟨gb1770, 0, none⟩ = some (.int .u64 0) := (blk_cell BK1770.out 0).trans rfl; have hcz60_1 : w57.cell? ⟨gb1770, 1, none⟩ = some (.int .u64 0) := (blk_cell BK1770.out 1).trans rfl; have hfz60_0 := blk_frozen BK1770.out 0; have hfz60_1 := blk_frozen BK1770.out 1))
                  go_ret
                  exact ⟨by first | rfl | (simp [errW_none, errW_some] <;> rfl) | (simp [*, errW_none, errW_some] <;> rfl), by repeat (first | (with_reducible first | exact HB.out | apply below_alloc | apply pw_below_drewN | apply below_drew1 | refine below_set ?_ GE1730.out | refine below_set ?_ GE1756.out | refine below_set ?_ GE1770.out) | exact HB.out)⟩
                · rw [if_neg c46] at H
                  exact absurd H (by simp)
              · rw [if_neg c45] at H
                exact absurd H (by simp)
      · rw [if_neg c10] at H
        exact absurd H (by simp)
  · replace c4 := Bool.eq_false_iff.mpr c4
    subst c4
    have H1 : (none) = some r := by rw [if_neg (show ¬ (false = true) by decide)] at H; exact H
    clear H
    have H := H1
    clear H1
    exact absurd H (by simp)
end Go.Proofs.Ytpkjpiphjdpegaa.P
namespace Go.Proofs.Ytpkjpiphjdpegaa.P
open Go.RowKit Go.Proofs.YtpkjpiphjdpegaaW.PrintWords Go.Proofs.YtpkjpiphjdpegaaW.PrintLast Go.Proofs.YtpkjpiphjdpegaaW.PrintMore
set_option linter.unusedVariables false
set_option linter.unusedSimpArgs false
theorem awake2 : paymasterlaw02_awake.f 200 = some true := by decide +kernel
theorem decimalBack_pure (a b : Int) (s : ByteArray) (ha : U64 a) (hb : U64 b) : paymasterlaw02_DecimalBack.f 200 a b s = some true := by
  obtain ⟨v0, v1⟩ := val_range a b ha hb
  obtain ⟨e, d, l0, l1⟩ := dec_facts (val a b) v0 v1
  have la : (asc (dec (val a b))).length = (dec (val a b)).length := by simp [asc]
  unfold paymasterlaw02_DecimalBack.f
  rw [awake2, Option.bind_some, if_pos rfl]
  by_cases h : (s.size : Int) > 300
  · rw [if_pos h]
  rw [if_neg h, text_num a b ha hb, Option.bind_some, parse_num _ (by rw [strOfNums_size]; omega), str_nb _ (asc_byte _ d), parse_text _ v0 v1, Option.bind_some, if_pos rfl, hiOf_val a b hb, loOf_val a b hb, if_neg (by simp), parse_num s (by omega), Option.bind_some]
  have sl := nb_length s
  by_cases hn : noNum (nb s) = true
  · have : parseOf (nb s) = (0, 0, 20) := if_pos hn
    rw [this, if_neg (by simp), if_pos rfl]
    rfl
  · have hn' : noNum (nb s) = false := by simpa using hn
    have r0 := parse_range _ hn'
    by_cases c : valD (unasc (nb s)) < m128
    · have : parseOf (nb s) = (hiOf (valD (unasc (nb s))), loOf (valD (unasc (nb s))), 0) := by
        unfold parseOf
        rw [if_neg hn, if_pos c]
      obtain ⟨u1, u2⟩ := u_hiOf _ r0 c
      rw [this, if_pos rfl, text_num _ _ u1 u2, Option.bind_some, val_halves, text_parse _ hn' c, nb_str]
      simp
    · have : parseOf (nb s) = (0, 0, 10) := by
        unfold parseOf
        rw [if_neg hn, if_neg c]
      have r1 := (valD_range _ (noNum_false _ hn').2.1).2
      have ul : (unasc (nb s)).length = s.size := by simp [unasc, sl]
      have big : (s.size : Int) ≥ 39 := by
        rw [ul] at r1
        by_cases q : s.size < 39
        · have := ten_mono s.size (38 - s.size)
          rw [show s.size + (38 - s.size) = 38 from by omega] at this
          have m : (10 : Int) ^ 38 < m128 := by unfold m128; decide
          omega
        · omega
      rw [this, if_neg (by simp), if_neg (by simp), if_pos rfl, if_pos big]
      rfl
theorem decimalBack_walk {w : World} (a b : Int) (ha : U64 a) (hb : U64 b) (s : ByteArray) (gs : s.size ≤ 9223372036854775807) :
    Calls Try.prog 20 #[.agg #[.int .u64 a, .int .u64 b], .string s] w fun e w' => e = .returned (.bool true) ∧ Below w.heap.size w w' :=
  paymasterlaw02_DecimalBack.calls 200 a b s true w (decimalBack_pure a b s ha hb)
end Go.Proofs.Ytpkjpiphjdpegaa.P
namespace Go.Proofs.Ytpkjpiphjdpegaa.decimalBack
open Go.ChangeShapes Go.WideShapes Go.ChangeAt Go.RowKit Go.Proofs.Ytpkjpiphjdpegaa.P
open Go.ChangeMaps (open_string shut_string)
set_option linter.unusedVariables false
theorem own : ownKnob Try.prog.godebug = none := by kernel_rfl
theorem laidOut : laidOutB Try.prog = true := by kernel_rfl
set_option maxRecDepth 100000 in
theorem lifted (os : Os) (started : os.Started) (H : Type) (enc : TypeId × Value → H) :
    ReturnsInHanded {} Try.checked os 20 .any (Rows.decimalBackSpec.pre6 enc Try.prog Try.f20 Rows.decimalBackRow.domain false) (Rows.decimalBackSpec.post enc Try.prog Try.f20 false true false false) := by
  refine returnsInHanded_of_change_sized (C := Try.checked) own started (by kernel_rfl) Try.func20
    (ChangeSpec.witness6 (enc := enc) (C := Try.checked) false ⟨#[], #[.agg #[.int .u64 0, .int .u64 0], .string ByteArray.empty], []⟩ 8 (by kernel_rfl) (by kernel_rfl) (by kernel_rfl) (by kernel_rfl)) ?_
  intro W base args ds gs before hval0 hW hcnd hsz0 _
  have hval : ∀ (j : Nat) t v, Try.f20.params[j]? = some t → args[j]? = some v → Value.okWide Try.prog W .any base t v := hval0
  have hW' := hW
  obtain ⟨p, q, hA0, hV, rfl, hfz, hnd⟩ := hW
  have hA : DataW.TrodAll enc Try.prog W 0 (fun _ => true) true Try.f20.params.toList args.toList ds p := hA0
  rw [Try.params20] at hA hval
  have hAll := hA
  obtain ⟨v0, vs0, d0, ds0, p0, q0, hargs, rfl, rfl, h0, r0⟩ := trodAll_cons hA
  obtain ⟨v1, vs1, d1, ds1, p1, q1, rfl, rfl, rfl, h1, r1⟩ := trodAll_cons r0
  obtain ⟨rfl, rfl, rfl⟩ := trodAll_nil r1
  obtain rfl : args = #[v0, v1] := by cases args; simp_all
  obtain ⟨rfl, rfl⟩ := trodVars_none hV
  obtain ⟨a0_0, a0_1, rfl, g0_0, g0_1⟩ := arg_25 (hval 0 25 v0 rfl rfl) h0
  obtain ⟨a1, rfl, g1⟩ := arg_string (hval 1 9 v1 rfl rfl) h1
  clear hA0 hval0 hsz0
  refine (decimalBack_walk (w := W) a0_0 a0_1 g0_0 g0_1 a1 g1).mono fun e W' ⟨he, bel⟩ => ?_
  subst he
  exact ⟨_, rfl, _, _, _, [], _, [], hW', trodAll_mk1 (shut_bool Try.underlying4 _), args_back laidOut bel (by kernel_rfl) hAll, rfl, bel.frame _, fun h => by cases h⟩
theorem both {a b : Bool} (h : a = true) (k : b = true) : (a && b) = true := by rw [h, k]; rfl
theorem c0 : (Rows.decimalBackRow.wf (OpenSpec.ofChange Rows.decimalBackSpec)) = true := by kernel_rfl
theorem c1 : (laidOutB Try.prog) = true := by kernel_rfl
theorem c2 : (mapsRowed Try.prog) = true := by kernel_rfl
theorem c3 : (Try.f20.params.all (Try.prog.readableRec ·)) = true := by kernel_rfl
theorem c4 : (namedTie Try.prog Rows.decimalBackRow.named Rows.decimalBackSpec.vars) = true := by kernel_rfl
theorem c5 : ((Rows.decimalBackRow.stops == [])) = true := by kernel_rfl
theorem c6 : ((Try.prog.stops == [])) = true := by kernel_rfl
theorem c7 : ((Rows.decimalBackRow.knobs == [])) = true := by kernel_rfl
theorem c8 : ((Try.prog.stopKnobs == [])) = true := by kernel_rfl
theorem c9 : ((Rows.decimalBackRow.inPlace == Try.prog.inPlace 20)) = true := by kernel_rfl
theorem c10 : ((Rows.decimalBackRow.unfollowed == Try.prog.unfollowed 20)) = true := by kernel_rfl
theorem c11 : ((Rows.decimalBackRow.recurses == Try.prog.recurses 20)) = true := by kernel_rfl
theorem c12 : ((Rows.decimalBackRow.named == Try.prog.varsNamed 20)) = true := by kernel_rfl
theorem c13 : ((Rows.decimalBackRow.maps == (Try.f20.params.toList ++ Rows.decimalBackSpec.plain.varTypes Try.prog).any (Try.prog.mapsRec ·))) = true := by kernel_rfl
theorem c14 : ((Rows.decimalBackRow.ifaces == (Try.f20.params.toList ++ Rows.decimalBackSpec.plain.varTypes Try.prog).any (Try.prog.ifacesRec ·))) = true := by kernel_rfl
theorem c15 : ((Rows.decimalBackRow.mapsOut == Try.prog.mapsAmong Try.f20.resultTypes.toList)) = true := by kernel_rfl
theorem c16 : ((Rows.decimalBackRow.loops == (Try.f20.params.toList ++ Rows.decimalBackSpec.plain.varTypes Try.prog).any (Try.prog.loopsFrom ·))) = true := by kernel_rfl
theorem c17 : ((Rows.decimalBackRow.wideKeys == (Try.f20.params.toList ++ Rows.decimalBackSpec.plain.varTypes Try.prog ++ Try.f20.resultTypes.toList).any (Try.prog.wideKeysFrom ·))) = true := by kernel_rfl
theorem c18 : (Rows.decimalBackSpec.vars.all (Try.prog.varReadable ·)) = true := by kernel_rfl
theorem c19 : (Try.f20.resultTypes.all (fun t => Try.prog.readableRec t && decide (t < Try.prog.types.size))) = true := by kernel_rfl
theorem c20 : ((Rows.decimalBackRow.ifacesOut == Try.f20.resultTypes.toList.any (Try.prog.ifacesRec ·))) = true := by kernel_rfl
theorem c21 : ((Rows.decimalBackRow.loopsOut == Try.f20.resultTypes.toList.any (Try.prog.loopsFrom ·))) = true := by kernel_rfl
theorem c22 : ((Rows.decimalBackRow.plainKeys == Try.prog.plainKeys)) = true := by kernel_rfl
theorem c23 : (Rows.decimalBackRow.shortTexts.isNone) = true := by kernel_rfl
theorem c24 : (Try.prog.stopsHeard) = true := by kernel_rfl
theorem c25 : (Try.prog.mayEnter) = true := Facts.mayEnter
theorem c26 : ((Rows.decimalBackRow.lifted == Try.prog.liftsFinal)) = true := by rw [Facts.liftsFinal]; kernel_rfl
theorem c27 : ((Try.prog.make == some Rows.decimalBackRow.make)) = true := by rw [Facts.make]; kernel_rfl
theorem c28 : ((Rows.decimalBackRow.kinds == (if Rows.decimalBackRow.domain.isEmpty then [] else Try.f20.params.toList.map fun t => match Try.prog.underlying t with | some (.int k) => some k | _ => none))) = true := by kernel_rfl
theorem c29 : ((Rows.decimalBackRow.pinned == Rows.decimalBackRow.pinnedBy)) = true := by kernel_rfl
theorem c30 : ((Rows.decimalBackRow.veiled == (Try.f20.params.toList ++ Rows.decimalBackSpec.plain.varTypes Try.prog ++ Try.f20.resultTypes.toList).any (Try.prog.veiledRec ·))) = true := by kernel_rfl
theorem c31 : (Rows.decimalBackRow.veiledFits Try.prog Try.f20.params.toList (Try.f20.params.toList ++ Rows.decimalBackSpec.plain.varTypes Try.prog ++ Try.f20.resultTypes.toList)) = true := by kernel_rfl
set_option maxRecDepth 100000 in
theorem closed : joinedFacts Try.prog 20 Try.f20 Rows.decimalBackSpec Rows.decimalBackRow = true := by
  unfold joinedFacts
  exact both (both (both (both (both (both (both (both (both (both (both (both (both (both (both (both (both (both (both (both (both (both (both (both (both (both (both (both (both (both (both (c0) c1) c2) c3) c4) c5) c6) c7) c8) c9) c10) c11) c12) c13) c14) c15) c16) c17) c18) c19) c20) c21) c22) c23) c24) c25) c26) c27) c28) c29) c30) c31
theorem over : Rows.decimalBackRow.holds Try.pinned (OpenSpec.ofChange Rows.decimalBackSpec) :=
  OpenClaim.holds_of_wide 20 Try.f20 rfl rfl rfl rfl rfl rfl rfl ⟨rfl, rfl, rfl, rfl, rfl⟩ rfl rfl rfl rfl rfl (by kernel_rfl) Try.func20 closed
    (of_decide_eq_true (by kernel_rfl)) (by unfold Func.isWrapper; first | (rw [if_pos (by decide +kernel)]; kernel_rfl) | (rw [if_neg (by decide +kernel)]; exact ⟨rfl, rfl⟩))
    (fun os started H enc _ => lifted os started H enc)
end Go.Proofs.Ytpkjpiphjdpegaa.decimalBack
namespace Go.Proofs.Ytpkjpiphjdpegaa
theorem decimalBack_holds : Rows.DecimalBackSaid := decimalBack.over
end Go.Proofs.Ytpkjpiphjdpegaa
