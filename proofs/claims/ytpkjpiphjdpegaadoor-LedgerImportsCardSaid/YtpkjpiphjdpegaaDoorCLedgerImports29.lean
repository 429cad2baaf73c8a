/- A program of this session wrote this text out of the session's own texts. (part 29 of 45) -/
import Derived.Test.YtpkjpiphjdpegaaDoorCLedgerImportsQ
import Derived.Test.YtpkjpiphjdpegaaDoorCLedgerImports4
import Derived.Test.YtpkjpiphjdpegaaDoorCLedgerImports8
import Derived.Test.YtpkjpiphjdpegaaDoorCLedgerImports20
import Derived.Test.YtpkjpiphjdpegaaDoorCLedgerImports28
import Derived.Ground.GgwProg
import Derived.Shelf.GgClosure.StringsIndexFuncTop
import Derived.Laws.RangeAny
import Derived.Lib.ConvBytes
import Derived.Deep.RegionWith
import Derived.Shelf.Strings.OnBuilder
import Derived.Shelf.Strings.Search1
import Derived.Shelf.Strings.Search2
import Derived.Shelf.Strings.Search3
import Derived.Shelf.SlicesE.IndexFunc
import Derived.Ground.SlgfProg
import Derived.Shelf.SlicesQ.IndexFunc
import Derived.Lib.SliceRun
import Derived.Lib.IndexAny
import Derived.Test.YtpkjpiphjdpegaaDoorProg
namespace Go.Proofs.YtpkjpiphjdpegaaDoor.P
open Go.Shelf Go.RowKit
def shGw17_ren : Go.Shelf.Ren := ⟨fun | 17 => 113 | 15 => 130 | 20 => 141 | n => n, fun | 9 => 9 | 23 => 99 | 4 => 4 | 3 => 3 | 0 => 0 | 21 => 21 | n => n, fun | n => n⟩
theorem shGw17 : Go.Proofs.LaysGw.n17 Tryd.prog shGw17_ren := {
 mixed := by kernel_rfl
 f15 := Tryd.func130.trans (congrArg some (by kernel_rfl))
 f17 := Tryd.func113.trans (congrArg some (by kernel_rfl))
 f20 := Tryd.func141.trans (congrArg some (by kernel_rfl))
 t0 := Tryd.underlying0
 a0 := Tryd.isAgg0
 z0 := Tryd.sizeOf0
 v0 := Tryd.zeroValue0
 i0 := by kernel_rfl
 t3 := Tryd.underlying3
 a3 := Tryd.isAgg3
 z3 := Tryd.sizeOf3
 v3 := Tryd.zeroValue3
 i3 := by kernel_rfl
 t4 := Tryd.underlying4
 a4 := Tryd.isAgg4
 z4 := Tryd.sizeOf4
 v4 := Tryd.zeroValue4
 i4 := by kernel_rfl
 t9 := Tryd.underlying9
 a9 := Tryd.isAgg9
 z9 := Tryd.sizeOf9
 v9 := Tryd.zeroValue9
 i9 := by kernel_rfl
 t21 := Tryd.underlying21
 a21 := Tryd.isAgg21
 z21 := Tryd.sizeOf21
 v21 := Tryd.zeroValue21
 i21 := by kernel_rfl
 t23 := Tryd.underlying99
 a23 := Tryd.isAgg99
 z23 := Tryd.sizeOf99
 v23 := Tryd.zeroValue99
 i23 := by kernel_rfl }
open Go.RowKit Go.Lib in
theorem sh_ContainsFunc (g : Nat) (lb : Array Value) (eg : ∀ args w, (callFunc g args).run Tryd.prog w = .ok (.enter g args) w) (p : Nat → Bool) (s : ByteArray) (w : World) (hp : PredAt Tryd.prog g lb encR p w) :
  Calls Tryd.prog 113 #[.string s, .func (.func g) #[] lb] w fun e w' => e = .returned (.bool (decide (0 ≤ Lib.idxFunc p true s))) ∧ Below w.heap.size w w' := Any.strings_ContainsFunc shGw17 g lb eg p s w hp
end Go.Proofs.YtpkjpiphjdpegaaDoor.P
namespace Go.Proofs.YtpkjpiphjdpegaaDoor.P
open Go.RowKit Go.Proofs.YtpkjpiphjdpegaaDoorW.PrintWords Go.Proofs.YtpkjpiphjdpegaaDoorW.PrintLast Go.Proofs.YtpkjpiphjdpegaaDoorW.PrintMore
set_option linter.unusedVariables false
set_option linter.unusedSimpArgs false
def odd (r : Nat) : Bool := decide (r < 48) || decide (57 < r)
theorem oddP_at (w : World) : PredAt Tryd.prog 112 #[] encR odd w := fun W r _ => by
 unfold FnGives odd
 by_cases h1 : r < 48 <;> by_cases h2 : 57 < r
 all_goals
  have z1 : (r : Int) < 48 ↔ r < 48 := by omega
  have z2 : (57 : Int) < (r : Int) ↔ 57 < r := by omega
  go_enter Tryd.func112, Tryd.ntmps112; go_wp2; all_goals first | (exfalso; omega) | (go_ret; exact ⟨by simp [h1, h2], 0, rfl⟩)
def badB (c : Int) : Bool := decide (c < 48) || decide (c > 57)
theorem nb_cons (s : ByteArray) (i : Nat) (h : i < s.size) : (nb s).drop i = ((s[i]'h).toNat : Int) :: (nb s).drop (i + 1) := by
 rw [List.drop_eq_getElem_cons (by rw [nb_length]; exact h)]
 congr 1
 unfold nb; rw [List.getElem_map, Array.getElem_toList]; rfl
theorem odd_from (s : ByteArray) : ∀ (f pos : Nat), s.size ≤ pos + f → (0 ≤ Lib.idxFuncFrom odd true s f pos ↔ ((nb s).drop pos).any badB = true)
 | 0, pos, h => by
  rw [List.drop_of_length_le zv3n]; simp [Lib.idxFuncFrom]
 | f + 1, pos, h => by
  unfold Lib.idxFuncFrom
  by_cases hp : pos < s.size
  ·rw [if_pos hp, nb_cons s pos hp, List.any_cons]; have hb := (s[pos]'hp).toNat_lt
   by_cases ha : (s[pos]'hp).toNat < 128
   ·rw [decode_ascii s pos hp ha]; show 0 ≤ (if odd (s[pos]'hp).toNat = true then (pos : Int) else Lib.idxFuncFrom odd true s f (pos + 1)) ↔ _
    have e : odd (s[pos]'hp).toNat = badB ((s[pos]'hp).toNat : Int) := by
     unfold odd badB; generalize (s[pos]'hp).toNat = x; rw [Bool.eq_iff_iff]; simp only [Bool.or_eq_true, decide_eq_true_eq]; omega
    rw [e]
    by_cases c : badB ((s[pos]'hp).toNat : Int) = true
    ·rw [if_pos c, c]; simp
    ·rw [if_neg c, odd_from s f (pos + 1) zv1]; simp [c]
   ·have d := decode_high s pos hp zv1; have c : badB ((s[pos]'hp).toNat : Int) = true := by unfold badB; simp; omega
    have o : odd (Utf8.decode s pos).1 = true := by unfold odd; simp; omega
    rw [if_pos o, c]; simp
  ·rw [if_neg hp, List.drop_of_length_le zv3n]; simp
theorem oddP_is (s : ByteArray) : decide (0 ≤ Lib.idxFunc odd true s) = (nb s).any badB := by
 rw [Bool.eq_iff_iff, decide_eq_true_eq]; have := odd_from s s.size 0 zv1; rw [List.drop_zero] at this; exact this
theorem contains_odd (s : ByteArray) (w : World) : Calls Tryd.prog 113 #[.string s, .func (.func 112) #[] #[]] w fun e w' => e = .returned (.bool ((nb s).any badB)) ∧ Below w.heap.size w w' := by
 rw [← oddP_is]; exact sh_ContainsFunc 112 #[] (enters_of Tryd.func112 (by kernel_rfl) rfl) odd s w (oddP_at w)
theorem of_exact (d : Int) (w : World) : Calls Tryd.prog 67 #[.int .u64 d] w fun e w' => e = .returned (.agg #[.int .u64 0, .int .u64 d]) ∧ ∃ o, w' = w.alloc o := by
 go_enter Tryd.func67, Tryd.ntmps67; go_wp2; exact bodyPost_ret (v := .agg #[.int .u64 0, .int .u64 d]) (by simp [results, Tryd.results67, go_sem]) rfl ⟨rfl, _, rfl⟩
set_option maxHeartbeats 1000000 in
set_option maxRecDepth 100000 in
theorem add_exact (a0_0 a0_1 a1_0 a1_1 r1 r2 r3 : Int) (w : World) (h : u128_Add.f a0_0 a0_1 a1_0 a1_1 = some (r1, r2, r3)) :
  Calls Tryd.prog 97 #[.agg #[.int .u64 a0_0, .int .u64 a0_1], .agg #[.int .u64 a1_0, .int .u64 a1_1]] w fun e w' => e = .returned (.tuple #[.agg #[.int .u64 r1, .int .u64 r2], .int .i64 r3]) ∧ ∃ o1 o2 o3, w' = ((w.alloc o1).alloc o2).alloc o3 := by
 have hu : U64 a0_0 ∧ U64 a0_1 ∧ U64 a1_0 ∧ U64 a1_1 := by
  unfold u128_Add.f at h
  split at h
  ·assumption
  ·cases h
 obtain ⟨h1, h2, h3, h4⟩ := hu; obtain ⟨lo, c1, hi, c2, e1, e2, e3, e4, l1, l2, l3, hf⟩ := add_plan a0_0 a0_1 a1_0 a1_1 h1 h2 h3 h4
 have k1 : ∀ W : World, (callFunc 124 #[.int .u64 a0_1, .int .u64 a1_1, .int .u64 0]).run Tryd.prog W = .ok (.value (.tuple #[.int .u64 lo, .int .u64 c1])) W := by
  intro W; rw [call_add64 _ _ _ h2.1 h4.1 zv1 zv1, e1, e2]
 have k2 : ∀ W : World, (callFunc 124 #[.int .u64 a0_0, .int .u64 a1_0, .int .u64 c1]).run Tryd.prog W = .ok (.value (.tuple #[.int .u64 hi, .int .u64 c2])) W := by
  intro W; rw [call_add64 _ _ _ h1.1 h3.1 l1 l2, e3, e4]
 clear e1 e2 e3 e4 h1 h2 h3 h4 l1 l2 l3
 rcases hf with ⟨hc, hf⟩ | ⟨hc, hf⟩
 ·rw [hf] at h; simp only [Option.some.injEq, Prod.mk.injEq] at h; obtain ⟨rfl, rfl, rfl⟩ := h; subst hc; clear hf; go_enter Tryd.func97, Tryd.ntmps97; go_wp2; exact bodyPost_ret (v := .tuple #[.agg #[.int .u64 hi, .int .u64 lo], .int .i64 0]) (by simp [results, Tryd.results97, go_sem]) rfl ⟨rfl, _, _, _, rfl⟩
 ·rw [hf] at h; simp only [Option.some.injEq, Prod.mk.injEq] at h; obtain ⟨rfl, rfl, rfl⟩ := h; have hn : (c2 != 0) = true := by simpa using hc
  clear hf hc; go_enter Tryd.func97, Tryd.ntmps97; go_wp2; exact bodyPost_ret (v := .tuple #[.agg #[.int .u64 0, .int .u64 0], .int .i64 10]) (by simp [results, Tryd.results97, go_sem]) rfl ⟨rfl, _, _, _, rfl⟩
theorem conv_str (W : World) (s : ByteArray) : ∃ cap W' C fr, (convert 9 82 (.string s)).run Tryd.prog W = .ok (.slice (some ⟨W.heap.size, 0, none⟩) s.size cap) W' ∧ Below W.heap.size W W' ∧ W'.heap[W.heap.size]? = some (.cells C 5 fr) ∧ ∀ j : Nat, j < s.size → C[j]? = some (.int .u8 (bt s (j : Int))) := by
 refine ⟨_, _, _, _, Lib.run_convert_string_bytes W 9 82 5 s Tryd.underlying9 Tryd.underlying82 Tryd.underlying5, ?_, Lib.bytesWorld_at_new W 5 s, fun j hj => ?_⟩
 ·refine ⟨rfl, rfl, rfl, ?_, fun k hk => Lib.bytesWorld_at_old W 5 s k hk⟩; rw [Lib.bytesWorld_size]; omega
 ·rw [← cell_of_row _ _ j _ _ _ (Lib.bytesWorld_at_new W 5 s), Lib.bytesWorld_cell W 5 s j hj]
  congr 2
  have e := bt_nb s j; rw [e]; unfold nb; rw [List.getD_eq_getElem?_getD, List.getD_eq_getElem?_getD, List.getElem?_map, List.getElem?_eq_getElem (by simpa using hj)]; rfl
theorem head48 (s : ByteArray) (h : 1 < s.size) : ((nb s).head? == some 48) = (bt s 0 == 48) := by
 have e := bt_nb s 0; rw [show ((0 : Nat) : Int) = 0 from rfl] at e; rw [e]; have l := nb_length s; cases hn : nb s with
 | nil => rw [hn] at l; simp at l; omega
 | cons x t => simp
theorem fold_up (l : List Int) (a : Int) (ha : 0 ≤ a) (hl : Dig l) : a ≤ l.foldl (fun a d => a * 10 + d) a := by
 have h := (valD_range l hl).1; unfold valD at h; rw [fold_cons]; have p := ten_pos l.length; have : a * 1 ≤ a * 10 ^ l.length := Int.mul_le_mul_of_nonneg_left zv1 ha; omega
theorem parse_step (x y d : Int) (hx : U64 x) (hy : U64 y) (d0 : 0 ≤ d) (d1 : d < 10) : ∃ t1 t2 t3 s1 s2 s3, u128_Times.f x y 10 = some (t1, t2, t3) ∧ u128_Add.f t1 t2 0 d = some (s1, s2, s3) ∧
  ((t3 = 0 ∧ s3 = 0 ∧ U64 s1 ∧ U64 s2 ∧ val s1 s2 = val x y * 10 + d) ∨ ((t3 ≠ 0 ∨ s3 ≠ 0) ∧ m128 ≤ val x y * 10 + d)) := by
 have vr := val_range x y hx hy; have ud : U64 d := ⟨zv1, zv1⟩
 have z : U64 0 := ⟨zv1, zv1⟩
 by_cases c2 : val x y * 10 < m128
 ·have ut := u_hiOf (val x y * 10) zv1 c2
  by_cases c3 : val x y * 10 + d < m128
  ·have un := u_hiOf (val x y * 10 + d) zv1 c3; refine ⟨hiOf (val x y * 10), loOf (val x y * 10), 0, hiOf (val x y * 10 + d), loOf (val x y * 10 + d), 0, ?_, ?_, .inl ⟨rfl, rfl, un.1, un.2, val_halves _⟩⟩
   ·rw [times_num x y 10 hx hy ⟨zv1, zv1⟩, if_pos c2]
   ·rw [add_num _ _ _ _ ut.1 ut.2 z ud, val_halves, small_val, if_pos c3]
  ·refine ⟨hiOf (val x y * 10), loOf (val x y * 10), 0, 0, 0, 10, ?_, ?_, .inr ⟨.inr zv1, zv1⟩⟩
   ·rw [times_num x y 10 hx hy ⟨zv1, zv1⟩, if_pos c2]
   ·rw [add_num _ _ _ _ ut.1 ut.2 z ud, val_halves, small_val, if_neg c3]
 ·refine ⟨0, 0, 10, hiOf (0 + d), loOf (0 + d), 0, ?_, ?_, .inr ⟨.inl zv1, zv1⟩⟩
  ·rw [times_num x y 10 hx hy ⟨zv1, zv1⟩, if_neg c2]
  ·rw [add_num _ _ _ _ z z z ud, small_val, small_val, if_pos zv3t]
theorem blk_new_at (W : World) (o : Obj) (g : Nat) (h : W.heap.size = g) : (W.alloc o).heap[g]? = some o := h ▸ blk_new W o
theorem abs_world {Kx : Exit → Act → World → Prop} {e : Exit} {a : Act} {W : World} (F : World → Prop) (hF : F W) (h : ∀ W', F W' → Kx e a W') : Kx e a W := h W hF
def kept9 (w : World) (g5 g10 : Nat) (x y p q : Int) (C : Array Value) (fr : Nat × Nat) (W : World) : Prop :=
 W.heap[w.heap.size]? = some (.cells #[.int .u64 0, .int .u64 0] 42 (0, 0)) ∧ W.heap[g5]? = some (.cells #[.int .u64 x, .int .u64 y] 42 (0, 0)) ∧ W.heap[g5 + 1]? = some (.cells C 5 fr) ∧ W.heap[g10]? = some (.cells #[.int .u64 p, .int .u64 q] 42 (0, 0)) ∧ Below w.heap.size w W
set_option maxHeartbeats 4000000 in
set_option maxRecDepth 100000 in
theorem decimal_Parse.calls (a0 : ByteArray) (r1 r2 r3 : Int) (w : World) (h : decimal_Parse.f a0 = some (r1, r2, r3)) :
  Calls Tryd.prog 84 #[.string a0] w fun e w' => e = .returned (.tuple #[.agg #[.int .u64 r1, .int .u64 r2], .int .i64 r3]) ∧ Below w.heap.size w w' := by
 have hs : a0.size ≤ 1000000000 := by
  unfold decimal_Parse.f at h
  split at h
  ·assumption
  ·cases h
 rw [parse_num a0 hs] at h; have h' := Option.some.inj h; clear h; unfold parseOf noNum at h'; have co := contains_odd a0; have bd : (nb a0).any (fun c => decide (c < 48) || decide (c > 57)) = (nb a0).any badB := rfl; rw [bd] at h'; have nl := nb_length a0
 by_cases z : a0.size = 0
 ·have e0 : a0 = ⟨#[]⟩ := by
   apply ByteArray.ext; exact Array.eq_empty_of_size_eq_zero z
  have en : (nb a0).isEmpty = true := by
   rw [List.eq_nil_of_length_eq_zero (show (nb a0).length = 0 by omega)]; rfl
  rw [en, Bool.true_or, Bool.true_or, if_pos rfl] at h'; cases h'; subst e0; go_enter Tryd.func84, Tryd.ntmps84; go_wp2; exact bodyPost_ret (v := .tuple #[.agg #[.int .u64 0, .int .u64 0], .int .i64 20]) (by simp [results, Tryd.results84, go_sem]) rfl ⟨rfl, zRe (Below.refl _ _) _⟩
 ·have ne : (nb a0).isEmpty = false := by
   cases hn : nb a0 with
   | nil => rw [hn] at nl; simp at nl; omega
   | cons x t => rfl
  have s0 : (a0.toList == ([] : List UInt8)) = false := by
   rw [beq_eq_false_iff_ne]; intro e; rw [Lib.toList_data] at e; have := congrArg List.length e; simp at this; exact z (by simp [ByteArray.size, this])
  rw [ne, Bool.false_or] at h'
  by_cases b : (nb a0).any badB = true
  ·rw [b, Bool.true_or, if_pos rfl] at h'; cases h'; rw [b] at co; go_enter Tryd.func84, Tryd.ntmps84
   go_wp2_with (first | (go_at_call 113; (with_reducible refine (co _).mono ?_); rintro e w' ⟨rfl, hb⟩; have BK := Aside0.mk (zRc (blk_new w (.cells #[.int .u64 0, .int .u64 0] 42)) hb); have cz0 : w'.cell? ⟨w.heap.size, 0, none⟩ = some (.int .u64 0) := (zRa BK.out 0).trans rfl; have cz1 : w'.cell? ⟨w.heap.size, 1, none⟩ = some (.int .u64 0) := (zRa BK.out 1).trans rfl; have fz0 := zRb BK.out 0; have fz1 := zRb BK.out 1; have HB := Aside0.mk (zRd (zRe (Below.refl _ _) _) hb)))
   exact bodyPost_ret (v := .tuple #[.agg #[.int .u64 0, .int .u64 0], .int .i64 20]) (by simp [results, Tryd.results84, go_sem, cz0, cz1]) rfl ⟨rfl, zRi (zRi HB.out (Nat.le_refl _)) (Nat.le_refl _)⟩
  ·have bf : (nb a0).any badB = false := by simpa using b
   rw [bf] at co; rw [bf, Bool.false_or] at h'; have p0 : 0 < a0.size := by omega
   by_cases q : 1 < a0.size ∧ bt a0 0 = 48
   ·rw [decide_eq_true (show 1 < (nb a0).length by omega), head48 a0 q.1, q.2, Bool.true_and, if_pos (show ((48 : Int) == 48) = true from rfl)] at h'; cases h'; have l1 : decide ((1 : Int) < (a0.size : Int)) = true := decide_eq_true zv1; have l0 : decide ((0 : Int) < (a0.size : Int)) = true := decide_eq_true zv1; have b0 : ((a0[0]'p0).toNat : Int) = 48 := by rw [← q.2]; exact bt_at a0 0 p0
    go_enter Tryd.func84, Tryd.ntmps84
    go_wp2_with (first | (go_at_call 113; (with_reducible refine (co _).mono ?_); rintro e w' ⟨rfl, hb⟩; have BK := Aside0.mk (zRc (blk_new w (.cells #[.int .u64 0, .int .u64 0] 42)) hb); have cz0 : w'.cell? ⟨w.heap.size, 0, none⟩ = some (.int .u64 0) := (zRa BK.out 0).trans rfl; have cz1 : w'.cell? ⟨w.heap.size, 1, none⟩ = some (.int .u64 0) := (zRa BK.out 1).trans rfl; have fz0 := zRb BK.out 0; have fz1 := zRb BK.out 1; have HB := Aside0.mk (zRd (zRe (Below.refl _ _) _) hb)))
    exact bodyPost_ret (v := .tuple #[.agg #[.int .u64 0, .int .u64 0], .int .i64 20]) (by simp [results, Tryd.results84, go_sem, cz0, cz1]) rfl ⟨rfl, zRi (zRi HB.out (Nat.le_refl _)) (Nat.le_refl _)⟩
   ·have nz : (decide (1 < (nb a0).length) && (nb a0).head? == some 48) = false := by
     by_cases l : 1 < a0.size
     ·rw [head48 a0 l]; have : (bt a0 0 == 48) = false := by rw [beq_eq_false_iff_ne]; exact fun e => q ⟨l, e⟩
      rw [this, Bool.and_false]
     ·rw [decide_eq_false (show ¬ 1 < (nb a0).length by omega), Bool.false_and]
    rw [nz, if_neg zv10] at h'
    have dN : Dig (unasc (nb a0)) := by
     intro d hd; obtain ⟨c, hc, rfl⟩ := List.mem_map.1 hd; have := (List.any_eq_false.1 bf) c hc; unfold badB at this; simp at this; omega
    by_cases l : 1 < a0.size
    ·have l1 : decide ((1 : Int) < (a0.size : Int)) = true := decide_eq_true zv1; have l0 : decide ((0 : Int) < (a0.size : Int)) = true := decide_eq_true zv1; have b0 : ((a0[0]'p0).toNat : Int) = bt a0 0 := bt_at a0 0 p0; have b1 : (bt a0 0 == 48) = false := by rw [beq_eq_false_iff_ne]; exact fun e => q ⟨l, e⟩
     go_enter Tryd.func84, Tryd.ntmps84
     go_wp2_with (first | (go_at_call 113; (with_reducible refine (co _).mono ?_); rintro e w' ⟨rfl, hb⟩; have BK := Aside0.mk (zRc (blk_new w (.cells #[.int .u64 0, .int .u64 0] 42)) hb); have cz0 : w'.cell? ⟨w.heap.size, 0, none⟩ = some (.int .u64 0) := (zRa BK.out 0).trans rfl; have cz1 : w'.cell? ⟨w.heap.size, 1, none⟩ = some (.int .u64 0) := (zRa BK.out 1).trans rfl; have fz0 := zRb BK.out 0; have fz1 := zRb BK.out 1; have HB := Aside0.mk (zRd (zRe (Below.refl _ _) _) hb); obtain ⟨cap, W2, C, fr, ecv, hb2, S2, SC⟩ := conv_str (w'.alloc (.cells #[.int .u64 0, .int .u64 0] 42)) a0; have R2 := Aside0.mk (zRc (zRf BK.out _) hb2); have A2 := Aside0.mk (zRc (blk_new w' (.cells #[.int .u64 0, .int .u64 0] 42)) hb2); rw [World.size_alloc] at S2; have HB2 := Aside0.mk (zRd (zRe HB.out _) hb2); have lt5 := blk_lt BK.out; replace S2 := Aside0.mk S2; replace SC := Aside0.mk SC; clear hb hb2 BK cz0 cz1 fz0 fz1 HB; obtain ⟨g5, hg5⟩ : ∃ g, w'.heap.size = g := ⟨_, rfl⟩; rw [hg5] at S2 A2 lt5))
     go_loopg [33] (a0.size + 1) (fun g v33 W => ∃ (i : Nat) (x y : Int), v33 = .int .i64 (i : Int) ∧ Aside0 (i ≤ a0.size ∧ a0.size ≤ i + g) ∧ Aside0 (U64 x ∧ U64 y ∧ (unasc ((nb a0).drop i)).foldl (fun a d => a * 10 + d) (val x y) = valD (unasc (nb a0))) ∧ Aside0 (W.heap[w.heap.size]? = some (.cells #[.int .u64 0, .int .u64 0] 42 (0, 0))) ∧ Aside0 (W.heap[g5]? = some (.cells #[.int .u64 x, .int .u64 y] 42 (0, 0))) ∧ Aside0 (W.heap[g5 + 1]? = some (.cells C 5 fr)) ∧ Aside0 (Below w.heap.size w W))
     case atStart =>
      refine ⟨0, 0, 0, rfl, ⟨zv1, zv1⟩, ⟨⟨zv1, zv1⟩, ⟨zv1, zv1⟩, rfl⟩, R2, A2, S2, HB2⟩
     case round =>
      clear R2 A2 S2 HB2; obtain ⟨i, x, y, rfl, J, V, R, A, S, HB⟩ := hrel; have ay0 : wr.cell? ⟨g5, 0, none⟩ = some (.int .u64 x) := (zRa A.out 0).trans rfl; have ay1 : wr.cell? ⟨g5, 1, none⟩ = some (.int .u64 y) := (zRa A.out 1).trans rfl; have ry0 : wr.cell? ⟨w.heap.size, 0, none⟩ = some (.int .u64 0) := (zRa R.out 0).trans rfl; have ry1 : wr.cell? ⟨w.heap.size, 1, none⟩ = some (.int .u64 0) := (zRa R.out 1).trans rfl; have rz0 := zRb R.out 0; have rz1 := zRb R.out 1; have vr := val_range x y V.out.1 V.out.2.1
      by_cases c : i < a0.size
      ·have cb : decide ((i : Int) < (a0.size : Int)) = true := decide_eq_true zv1; obtain ⟨gi, rfl⟩ : ∃ g, gk = g + 1 := ⟨gk - 1, (by have := J.out; omega)⟩
       have cs := (cell_of_row wr (g5 + 1) i _ _ _ S.out).trans (SC.out i c)
       have dr : (nb a0).drop i = bt a0 (i : Int) :: (nb a0).drop (i + 1) := by
        rw [nb_cons a0 i c]
        congr 1
        exact bt_at a0 (i : Int) (by simpa using c)
       have fv := V.out.2.2; rw [dr] at fv
       have hb48 : 0 ≤ bt a0 (i : Int) - 48 ∧ bt a0 (i : Int) - 48 < 10 := by
        refine dN _ (List.mem_map.2 ⟨bt a0 (i : Int), ?_, rfl⟩); refine List.mem_of_mem_drop (i := i) ?_; rw [dr]; exact List.mem_cons_self ..
       have fv' : (unasc ((nb a0).drop (i + 1))).foldl (fun a d => a * 10 + d) (val x y * 10 + (bt a0 (i : Int) - 48)) = valD (unasc (nb a0)) := fv
       have dT : Dig (unasc ((nb a0).drop (i + 1))) := fun d hd => dN d (by
        obtain ⟨q, hq, rfl⟩ := List.mem_map.1 hd
        exact List.mem_map.2 ⟨q, List.mem_of_mem_drop hq, rfl⟩)
       generalize bt a0 (i : Int) = bc at *; have wd : IntKind.u8.wrap (bc - 48) = bc - 48 := by rw [IntKind.wrap_u8]; omega
       have wd2 : IntKind.u64.wrap (bc - 48) = bc - 48 := wu _ zv1 zv1; have wd3 : (bc - 48) % 256 = bc - 48 := by omega
       obtain ⟨d, hd⟩ : ∃ d, bc - 48 = d := ⟨_, rfl⟩
       rw [hd] at wd wd2 wd3 hb48 fv'; have hO : u128_Of.f d = some (0, d) := rfl; have wdd : IntKind.u64.wrap (IntKind.u8.wrap (bc - 48)) = d := by rw [hd, wd, wd2]
       clear cb fv dr hd; obtain ⟨t1, t2, t3, s1, s2, s3, hT, hA, O⟩ := parse_step x y d V.out.1 V.out.2.1 hb48.1 hb48.2; replace O := Aside0.mk O; replace fv' := Aside0.mk fv'; replace dT := Aside0.mk dT; replace vr := Aside0.mk vr; replace h' := Aside0.mk h'
       go_wp2_with (first
        | (go_at_call 114; (with_reducible refine (u128_Times.calls x y 10 _ _ _ _ hT).mono ?_); rintro e W3 ⟨rfl, hb3⟩; have A3 := Aside0.mk (zRc A.out hb3); have R3 := Aside0.mk (zRc R.out hb3); have S3 := Aside0.mk (zRc S.out hb3); have HB3 := Aside0.mk (zRd HB.out hb3); clear hb3; clear ay0 ay1 ry0 ry1 rz0 rz1 A R S HB))
       clear cs SC hT co bd nl z ne s0 b bf nz dN wd wd2 wd3
       go_region_with (first
        | (go_at_call 67; (with_reducible refine (of_exact d _).mono ?_); rintro e W4 ⟨rfl, o0, rfl⟩)
        | (go_at_call 97; (with_reducible refine (add_exact _ _ _ _ _ _ _ _ hA).mono ?_); rintro e W5 ⟨rfl, o1, o2, o3, rfl⟩))
       all_goals
        (first
         | (refine abs_world (kept9 w g5 (W3.heap.size + 1) x y s1 s2 C fr) ⟨zRk (zRf (zRf (zRf (zRf (zRf (zRf R3.out _) _) _) _) _) _), zRk (zRf (zRf (zRf (zRf (zRf (zRf A3.out _) _) _) _) _) _), zRk (zRf (zRf (zRf (zRf (zRf (zRf S3.out _) _) _) _) _) _), ?_, zRj (zRe (zRe (zRe (zRe (zRe (zRe HB3.out _) _) _) _) _) _)⟩ ?_; (refine zRk ?_; repeat (first | (focus (refine blk_new_at _ _ _ ?_; simp; done)) | refine zRf ?_ _)); intro W6 K9)
         | (refine abs_world (kept9 w g5 (W3.heap.size + 1 + 1) x y s1 s2 C fr) ⟨zRk (zRf (zRf (zRf (zRf (zRf (zRf R3.out _) _) _) _) _) _), zRk (zRf (zRf (zRf (zRf (zRf (zRf A3.out _) _) _) _) _) _), zRk (zRf (zRf (zRf (zRf (zRf (zRf S3.out _) _) _) _) _) _), ?_, zRj (zRe (zRe (zRe (zRe (zRe (zRe HB3.out _) _) _) _) _) _)⟩ ?_; (refine zRk ?_; repeat (first | (focus (refine blk_new_at _ _ _ ?_; simp; done)) | refine zRf ?_ _)); intro W6 K9)
         | (refine abs_world (kept9 w g5 (W3.heap.size + 1 + 1 + 1 + 1 + 1) x y s1 s2 C fr) ⟨zRk (zRf (zRf (zRf (zRf (zRf (zRf R3.out _) _) _) _) _) _), zRk (zRf (zRf (zRf (zRf (zRf (zRf A3.out _) _) _) _) _) _), zRk (zRf (zRf (zRf (zRf (zRf (zRf S3.out _) _) _) _) _) _), ?_, zRj (zRe (zRe (zRe (zRe (zRe (zRe HB3.out _) _) _) _) _) _)⟩ ?_; (refine zRk ?_; repeat (first | (focus (refine blk_new_at _ _ _ ?_; simp; done)) | refine zRf ?_ _)); intro W6 K9))
        clear A3 R3 S3 HB3 o0 o1 o2 o3 wdd hA; obtain ⟨R6, A6, S6, T6, HB6⟩ := K9; have ty0 := (zRa T6 0).trans (show _ = some (Value.int .u64 s1) from rfl); have ty1 := (zRa T6 1).trans (show _ = some (Value.int .u64 s2) from rfl); have ay0 : W6.cell? ⟨g5, 0, none⟩ = some (.int .u64 x) := (zRa A6 0).trans rfl; have ay1 : W6.cell? ⟨g5, 1, none⟩ = some (.int .u64 y) := (zRa A6 1).trans rfl; have az0 := zRb A6 0; have az1 := zRb A6 1; have ry0 : W6.cell? ⟨w.heap.size, 0, none⟩ = some (.int .u64 0) := (zRa R6 0).trans rfl; have ry1 : W6.cell? ⟨w.heap.size, 1, none⟩ = some (.int .u64 0) := (zRa R6 1).trans rfl; have rz0 := zRb R6 0; have rz1 := zRb R6 1; replace R6 := Aside0.mk R6; replace A6 := Aside0.mk A6; replace S6 := Aside0.mk S6; replace HB6 := Aside0.mk HB6; clear T6
        rcases O.out with ⟨rfl, rfl, u1, u2, ve⟩ | ⟨oe, ge⟩
        ·clear O; go_wp2; go_roundg gi
         case measure => omega
         case rel =>
          refine ⟨i + 1, s1, s2, ?_, ⟨?_⟩, ⟨u1, u2, ?_⟩, ⟨?_⟩, ⟨?_⟩, ⟨?_⟩, ⟨?_⟩⟩
          ·rw [show ((i + 1 : Nat) : Int) = (i : Int) + 1 from by omega]
          ·have := J.out; omega
          ·rw [ve]; exact fv'.out
          ·exact zRr (zRr R6.out zv3q _) zv3q _
          ·exact zRm (zRm A6.out 0 _ rfl) 1 _ rfl
          ·exact (Below.heap_setCell _ ⟨g5, 1, none⟩ _ (g5 + 1) zv3s).trans ((Below.heap_setCell _ ⟨g5, 0, none⟩ _ (g5 + 1) zv3s).trans S6.out)
          ·exact zRi (zRi HB6.out zv1) zv1
        ·have big : ¬ valD (unasc (nb a0)) < m128 := by
          rw [← fv'.out]; have v0 := vr.out.1; have d0 : 0 ≤ d := by omega
          have := fold_up _ (val x y * 10 + d) zv1 dT.out; omega
         have hh := h'.out; rw [if_neg big] at hh; cases hh; clear O
         by_cases t : t3 = 0
         ·subst t
          have s3b : (s3 != 0) = true := by
           rw [bne_iff_ne]
           rcases oe with h | h
           ·exact absurd rfl h
           ·exact h
          go_wp2; exact bodyPost_ret (v := .tuple #[.agg #[.int .u64 0, .int .u64 0], .int .i64 10]) (by simp [results, Tryd.results84, go_sem, ry0, ry1]) rfl ⟨rfl, zRi (zRi HB6.out (Nat.le_refl _)) (Nat.le_refl _)⟩
         ·have t3b : (t3 != 0) = true := bne_iff_ne.mpr t; go_wp2; exact bodyPost_ret (v := .tuple #[.agg #[.int .u64 0, .int .u64 0], .int .i64 10]) (by simp [results, Tryd.results84, go_sem, ry0, ry1]) rfl ⟨rfl, zRi (zRi HB6.out (Nat.le_refl _)) (Nat.le_refl _)⟩
      ·have cb : decide ((i : Int) < (a0.size : Int)) = false := decide_eq_false zv1; obtain rfl : i = a0.size := by have := J.out; omega
       go_wp2
       have vv : val x y = valD (unasc (nb a0)) := by
        rw [← V.out.2.2, List.drop_of_length_le zv1]; rfl
       rw [← vv, if_pos vr.2, hiOf_val x y V.out.2.1, loOf_val x y V.out.2.1] at h'; cases h'; exact bodyPost_ret (v := .tuple #[.agg #[.int .u64 r1, .int .u64 r2], .int .i64 0]) (by simp [results, Tryd.results84, go_sem, ry0, ry1]) rfl ⟨rfl, zRi (zRi HB.out (Nat.le_refl _)) (Nat.le_refl _)⟩
    ·have l1 : decide ((1 : Int) < (a0.size : Int)) = false := decide_eq_false zv1; go_enter Tryd.func84, Tryd.ntmps84
     go_wp2_with (first | (go_at_call 113; (with_reducible refine (co _).mono ?_); rintro e w' ⟨rfl, hb⟩; have BK := Aside0.mk (zRc (blk_new w (.cells #[.int .u64 0, .int .u64 0] 42)) hb); have cz0 : w'.cell? ⟨w.heap.size, 0, none⟩ = some (.int .u64 0) := (zRa BK.out 0).trans rfl; have cz1 : w'.cell? ⟨w.heap.size, 1, none⟩ = some (.int .u64 0) := (zRa BK.out 1).trans rfl; have fz0 := zRb BK.out 0; have fz1 := zRb BK.out 1; have HB := Aside0.mk (zRd (zRe (Below.refl _ _) _) hb); obtain ⟨cap, W2, C, fr, ecv, hb2, S2, SC⟩ := conv_str (w'.alloc (.cells #[.int .u64 0, .int .u64 0] 42)) a0; have R2 := Aside0.mk (zRc (zRf BK.out _) hb2); have A2 := Aside0.mk (zRc (blk_new w' (.cells #[.int .u64 0, .int .u64 0] 42)) hb2); rw [World.size_alloc] at S2; have HB2 := Aside0.mk (zRd (zRe HB.out _) hb2); have lt5 := blk_lt BK.out; replace S2 := Aside0.mk S2; replace SC := Aside0.mk SC; clear hb hb2 BK cz0 cz1 fz0 fz1 HB; obtain ⟨g5, hg5⟩ : ∃ g, w'.heap.size = g := ⟨_, rfl⟩; rw [hg5] at S2 A2 lt5))
     go_loopg [33] (a0.size + 1) (fun g v33 W => ∃ (i : Nat) (x y : Int), v33 = .int .i64 (i : Int) ∧ Aside0 (i ≤ a0.size ∧ a0.size ≤ i + g) ∧ Aside0 (U64 x ∧ U64 y ∧ (unasc ((nb a0).drop i)).foldl (fun a d => a * 10 + d) (val x y) = valD (unasc (nb a0))) ∧ Aside0 (W.heap[w.heap.size]? = some (.cells #[.int .u64 0, .int .u64 0] 42 (0, 0))) ∧ Aside0 (W.heap[g5]? = some (.cells #[.int .u64 x, .int .u64 y] 42 (0, 0))) ∧ Aside0 (W.heap[g5 + 1]? = some (.cells C 5 fr)) ∧ Aside0 (Below w.heap.size w W))
     case atStart =>
      refine ⟨0, 0, 0, rfl, ⟨zv1, zv1⟩, ⟨⟨zv1, zv1⟩, ⟨zv1, zv1⟩, rfl⟩, R2, A2, S2, HB2⟩
     case round =>
      clear R2 A2 S2 HB2; obtain ⟨i, x, y, rfl, J, V, R, A, S, HB⟩ := hrel; have ay0 : wr.cell? ⟨g5, 0, none⟩ = some (.int .u64 x) := (zRa A.out 0).trans rfl; have ay1 : wr.cell? ⟨g5, 1, none⟩ = some (.int .u64 y) := (zRa A.out 1).trans rfl; have ry0 : wr.cell? ⟨w.heap.size, 0, none⟩ = some (.int .u64 0) := (zRa R.out 0).trans rfl; have ry1 : wr.cell? ⟨w.heap.size, 1, none⟩ = some (.int .u64 0) := (zRa R.out 1).trans rfl; have rz0 := zRb R.out 0; have rz1 := zRb R.out 1; have vr := val_range x y V.out.1 V.out.2.1
      by_cases c : i < a0.size
      ·have cb : decide ((i : Int) < (a0.size : Int)) = true := decide_eq_true zv1; obtain ⟨gi, rfl⟩ : ∃ g, gk = g + 1 := ⟨gk - 1, (by have := J.out; omega)⟩
       have cs := (cell_of_row wr (g5 + 1) i _ _ _ S.out).trans (SC.out i c)
       have dr : (nb a0).drop i = bt a0 (i : Int) :: (nb a0).drop (i + 1) := by
        rw [nb_cons a0 i c]
        congr 1
        exact bt_at a0 (i : Int) (by simpa using c)
       have fv := V.out.2.2; rw [dr] at fv
       have hb48 : 0 ≤ bt a0 (i : Int) - 48 ∧ bt a0 (i : Int) - 48 < 10 := by
        refine dN _ (List.mem_map.2 ⟨bt a0 (i : Int), ?_, rfl⟩); refine List.mem_of_mem_drop (i := i) ?_; rw [dr]; exact List.mem_cons_self ..
       have fv' : (unasc ((nb a0).drop (i + 1))).foldl (fun a d => a * 10 + d) (val x y * 10 + (bt a0 (i : Int) - 48)) = valD (unasc (nb a0)) := fv
       have dT : Dig (unasc ((nb a0).drop (i + 1))) := fun d hd => dN d (by
        obtain ⟨q, hq, rfl⟩ := List.mem_map.1 hd
        exact List.mem_map.2 ⟨q, List.mem_of_mem_drop hq, rfl⟩)
       generalize bt a0 (i : Int) = bc at *; have wd : IntKind.u8.wrap (bc - 48) = bc - 48 := by rw [IntKind.wrap_u8]; omega
       have wd2 : IntKind.u64.wrap (bc - 48) = bc - 48 := wu _ zv1 zv1; have wd3 : (bc - 48) % 256 = bc - 48 := by omega
       obtain ⟨d, hd⟩ : ∃ d, bc - 48 = d := ⟨_, rfl⟩
       rw [hd] at wd wd2 wd3 hb48 fv'; have hO : u128_Of.f d = some (0, d) := rfl; have wdd : IntKind.u64.wrap (IntKind.u8.wrap (bc - 48)) = d := by rw [hd, wd, wd2]
       clear cb fv dr hd; obtain ⟨t1, t2, t3, s1, s2, s3, hT, hA, O⟩ := parse_step x y d V.out.1 V.out.2.1 hb48.1 hb48.2; replace O := Aside0.mk O; replace fv' := Aside0.mk fv'; replace dT := Aside0.mk dT; replace vr := Aside0.mk vr; replace h' := Aside0.mk h'
       go_wp2_with (first
        | (go_at_call 114; (with_reducible refine (u128_Times.calls x y 10 _ _ _ _ hT).mono ?_); rintro e W3 ⟨rfl, hb3⟩; have A3 := Aside0.mk (zRc A.out hb3); have R3 := Aside0.mk (zRc R.out hb3); have S3 := Aside0.mk (zRc S.out hb3); have HB3 := Aside0.mk (zRd HB.out hb3); clear hb3; clear ay0 ay1 ry0 ry1 rz0 rz1 A R S HB))
       clear cs SC hT co bd nl z ne s0 b bf nz dN wd wd2 wd3
       go_region_with (first
        | (go_at_call 67; (with_reducible refine (of_exact d _).mono ?_); rintro e W4 ⟨rfl, o0, rfl⟩)
        | (go_at_call 97; (with_reducible refine (add_exact _ _ _ _ _ _ _ _ hA).mono ?_); rintro e W5 ⟨rfl, o1, o2, o3, rfl⟩))
       all_goals
        (first
         | (refine abs_world (kept9 w g5 (W3.heap.size + 1) x y s1 s2 C fr) ⟨zRk (zRf (zRf (zRf (zRf (zRf (zRf R3.out _) _) _) _) _) _), zRk (zRf (zRf (zRf (zRf (zRf (zRf A3.out _) _) _) _) _) _), zRk (zRf (zRf (zRf (zRf (zRf (zRf S3.out _) _) _) _) _) _), ?_, zRj (zRe (zRe (zRe (zRe (zRe (zRe HB3.out _) _) _) _) _) _)⟩ ?_; (refine zRk ?_; repeat (first | (focus (refine blk_new_at _ _ _ ?_; simp; done)) | refine zRf ?_ _)); intro W6 K9)
         | (refine abs_world (kept9 w g5 (W3.heap.size + 1 + 1) x y s1 s2 C fr) ⟨zRk (zRf (zRf (zRf (zRf (zRf (zRf R3.out _) _) _) _) _) _), zRk (zRf (zRf (zRf (zRf (zRf (zRf A3.out _) _) _) _) _) _), zRk (zRf (zRf (zRf (zRf (zRf (zRf S3.out _) _) _) _) _) _), ?_, zRj (zRe (zRe (zRe (zRe (zRe (zRe HB3.out _) _) _) _) _) _)⟩ ?_; (refine zRk ?_; repeat (first | (focus (refine blk_new_at _ _ _ ?_; simp; done)) | refine zRf ?_ _)); intro W6 K9)
         | (refine abs_world (kept9 w g5 (W3.heap.size + 1 + 1 + 1 + 1 + 1) x y s1 s2 C fr) ⟨zRk (zRf (zRf (zRf (zRf (zRf (zRf R3.out _) _) _) _) _) _), zRk (zRf (zRf (zRf (zRf (zRf (zRf A3.out _) _) _) _) _) _), zRk (zRf (zRf (zRf (zRf (zRf (zRf S3.out _) _) _) _) _) _), ?_, zRj (zRe (zRe (zRe (zRe (zRe (zRe HB3.out _) _) _) _) _) _)⟩ ?_; (refine zRk ?_; repeat (first | (focus (refine blk_new_at _ _ _ ?_; simp; done)) | refine zRf ?_ _)); intro W6 K9))
        clear A3 R3 S3 HB3 o0 o1 o2 o3 wdd hA; obtain ⟨R6, A6, S6, T6, HB6⟩ := K9; have ty0 := (zRa T6 0).trans (show _ = some (Value.int .u64 s1) from rfl); have ty1 := (zRa T6 1).trans (show _ = some (Value.int .u64 s2) from rfl); have ay0 : W6.cell? ⟨g5, 0, none⟩ = some (.int .u64 x) := (zRa A6 0).trans rfl; have ay1 : W6.cell? ⟨g5, 1, none⟩ = some (.int .u64 y) := (zRa A6 1).trans rfl; have az0 := zRb A6 0; have az1 := zRb A6 1; have ry0 : W6.cell? ⟨w.heap.size, 0, none⟩ = some (.int .u64 0) := (zRa R6 0).trans rfl; have ry1 : W6.cell? ⟨w.heap.size, 1, none⟩ = some (.int .u64 0) := (zRa R6 1).trans rfl; have rz0 := zRb R6 0; have rz1 := zRb R6 1; replace R6 := Aside0.mk R6; replace A6 := Aside0.mk A6; replace S6 := Aside0.mk S6; replace HB6 := Aside0.mk HB6; clear T6
        rcases O.out with ⟨rfl, rfl, u1, u2, ve⟩ | ⟨oe, ge⟩
        ·clear O; go_wp2; go_roundg gi
         case measure => omega
         case rel =>
          refine ⟨i + 1, s1, s2, ?_, ⟨?_⟩, ⟨u1, u2, ?_⟩, ⟨?_⟩, ⟨?_⟩, ⟨?_⟩, ⟨?_⟩⟩
          ·rw [show ((i + 1 : Nat) : Int) = (i : Int) + 1 from by omega]
          ·have := J.out; omega
          ·rw [ve]; exact fv'.out
          ·exact zRr (zRr R6.out zv3q _) zv3q _
          ·exact zRm (zRm A6.out 0 _ rfl) 1 _ rfl
          ·exact (Below.heap_setCell _ ⟨g5, 1, none⟩ _ (g5 + 1) zv3s).trans ((Below.heap_setCell _ ⟨g5, 0, none⟩ _ (g5 + 1) zv3s).trans S6.out)
          ·exact zRi (zRi HB6.out zv1) zv1
        ·have big : ¬ valD (unasc (nb a0)) < m128 := by
          rw [← fv'.out]; have v0 := vr.out.1; have d0 : 0 ≤ d := by omega
          have := fold_up _ (val x y * 10 + d) zv1 dT.out; omega
         have hh := h'.out; rw [if_neg big] at hh; cases hh; clear O
         by_cases t : t3 = 0
         ·subst t
          have s3b : (s3 != 0) = true := by
           rw [bne_iff_ne]
           rcases oe with h | h
           ·exact absurd rfl h
           ·exact h
          go_wp2; exact bodyPost_ret (v := .tuple #[.agg #[.int .u64 0, .int .u64 0], .int .i64 10]) (by simp [results, Tryd.results84, go_sem, ry0, ry1]) rfl ⟨rfl, zRi (zRi HB6.out (Nat.le_refl _)) (Nat.le_refl _)⟩
         ·have t3b : (t3 != 0) = true := bne_iff_ne.mpr t; go_wp2; exact bodyPost_ret (v := .tuple #[.agg #[.int .u64 0, .int .u64 0], .int .i64 10]) (by simp [results, Tryd.results84, go_sem, ry0, ry1]) rfl ⟨rfl, zRi (zRi HB6.out (Nat.le_refl _)) (Nat.le_refl _)⟩
      ·have cb : decide ((i : Int) < (a0.size : Int)) = false := decide_eq_false zv1; obtain rfl : i = a0.size := by have := J.out; omega
       go_wp2
       have vv : val x y = valD (unasc (nb a0)) := by
        rw [← V.out.2.2, List.drop_of_length_le zv1]; rfl
       rw [← vv, if_pos vr.2, hiOf_val x y V.out.2.1, loOf_val x y V.out.2.1] at h'; cases h'; exact bodyPost_ret (v := .tuple #[.agg #[.int .u64 r1, .int .u64 r2], .int .i64 0]) (by simp [results, Tryd.results84, go_sem, ry0, ry1]) rfl ⟨rfl, zRi (zRi HB.out (Nat.le_refl _)) (Nat.le_refl _)⟩
instance : Inhabited S44 := ⟨⟨⟨#[]⟩, ⟨0, 0⟩⟩⟩
end Go.Proofs.YtpkjpiphjdpegaaDoor.P
