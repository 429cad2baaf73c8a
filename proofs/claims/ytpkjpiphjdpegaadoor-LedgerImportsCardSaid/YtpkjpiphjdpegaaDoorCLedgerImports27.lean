/- A program of this session wrote this text out of the session's own texts. (part 27 of 45) -/
import Derived.Test.YtpkjpiphjdpegaaDoorCLedgerImportsQ
import Derived.Test.YtpkjpiphjdpegaaDoorCLedgerImports4
import Derived.Test.YtpkjpiphjdpegaaDoorCLedgerImports20
import Derived.Test.YtpkjpiphjdpegaaDoorCLedgerImports22
import Derived.Test.YtpkjpiphjdpegaaDoorCLedgerImports25
import Derived.Test.YtpkjpiphjdpegaaDoorCLedgerImports26
namespace Go.Proofs.YtpkjpiphjdpegaaDoor.P
open Go.RowKit Go.Proofs.YtpkjpiphjdpegaaDoorW.PrintWords Go.Proofs.YtpkjpiphjdpegaaDoorW.PrintLast Go.Proofs.YtpkjpiphjdpegaaDoorW.PrintMore
set_option linter.unusedVariables false
set_option linter.unusedSimpArgs false
theorem splitB_app : ∀ (a b : List UInt8), splitB (a ++ 10 :: b) = splitB a ++ splitB b
 | [], b => by show splitB (10 :: b) = [] :: splitB b; rw [splitB, if_pos rfl]
 | x :: a, b => by
  have ih := splitB_app a b; rw [List.cons_append, splitB, splitB]
  by_cases c : x = 10
  ·rw [if_pos c, if_pos c, ih]; rfl
  ·rw [if_neg c, if_neg c, ih]; cases h : splitB a with
   | nil => exact absurd h (splitB_ne a)
   | cons y r => rfl
theorem splitB_one : ∀ (h : List UInt8), (∀ b ∈ h, b ≠ 10) → splitB h = [h]
 | [], _ => rfl
 | x :: h, c => by
  rw [splitB, if_neg (c x (List.mem_cons_self ..)), splitB_one h fun b hb => c b (List.mem_cons_of_mem _ hb)]
theorem wrongOf_ne (h : List UInt8) : wrongOf h = 0 ∨ wrongOf h = 90 ∨ wrongOf h = 91 := by
 unfold wrongOf
 split
 ·split
  ·exact .inr (.inr rfl)
  ·exact .inl rfl
 ·exact .inr (.inl rfl)
theorem wrapI (x : Int) (h0 : -9223372036854775808 ≤ x) (h1 : x ≤ 9223372036854775807) : wrap64 x = x := by unfold wrap64; omega
end Go.Proofs.YtpkjpiphjdpegaaDoor.P
namespace Go.Proofs.YtpkjpiphjdpegaaDoor.P
open Go.RowKit Go.Proofs.YtpkjpiphjdpegaaDoorW.PrintWords Go.Proofs.YtpkjpiphjdpegaaDoorW.PrintLast Go.Proofs.YtpkjpiphjdpegaaDoorW.PrintMore
attribute [local go_sem] max2_int min2_int max_two min_two max_three min_three max_four min_four
set_option linter.unusedVariables false
set_option linter.unusedSimpArgs false
attribute [local go_sem high] eqA56
def paymasterref09_Wrong.f (k : Nat) (a0 : ByteArray) : Option (Int) := (paymasterref09_Runes.f k a0).bind fun bt182 => (if bt182.2 = 0 then (if (bt182.1.length : Int) > 80 then (some 91) else (some 0)) else (some bt182.2))
set_option maxHeartbeats 8000000 in
set_option maxRecDepth 100000 in
theorem paymasterref09_Wrong.calls (k : Nat) (a0 : ByteArray) (r : Int) (w : World) (h : paymasterref09_Wrong.f k a0 = some r) :
  Calls Tryd.prog 36 #[.string a0] w fun e w' => e = .returned (.int .i64 r) ∧ Below w.heap.size w w' := by
 have HB := Aside0.mk (Below.refl w.heap.size w); have H : ((paymasterref09_Runes.f k a0).bind fun bt182 => (if bt182.2 = 0 then (if (bt182.1.length : Int) > 80 then (some 91) else (some 0)) else (some bt182.2))) = some r := h; clear h; replace H := Option.bind_eq_some_iff.mp H; obtain ⟨⟨t182, t183⟩, A20, H⟩ := H; replace H : (if t183 = 0 then (if (t182.length : Int) > 80 then (some 91) else (some 0)) else (some t183)) = some r := H; have A2 := Aside0.mk A20; clear A20
 by_cases c3 : t183 = 0
 ·rw [if_pos c3] at H; have c3b0 : (t183 == 0) = true := beq_iff_eq.mpr c3; have c3b1 : (t183 != 0) = false := bne_eq_false_iff_eq.mpr c3; clear c3
  by_cases c4 : (t182.length : Int) > 80
  ·rw [if_pos c4] at H; have c4b0 : decide (80 < (t182.length : Int)) = true := decide_eq_true c4; have c4b1 : decide (80 < t182.length) = true := decide_eq_true zv1; clear c4; obtain rfl := Option.some.inj H; go_enter Tryd.func36, Tryd.ntmps36
   go_wp2_with (first | ((with_reducible refine zRl (f := 21) rfl ?_); refine goesL_ (some 7) rfl rfl Tryd.func21 (by kernel_rfl) rfl #[.string a0] rfl zv3 ?_; (with_reducible refine (paymasterref09_Runes.calls k a0 t182 t183 _ A2.out).mono ?_); rintro e w5 ⟨v184, rfl, ho0, hb⟩; refine ⟨_, rfl, ?_⟩; have n0_ := Aside0.mk (Kd.R_lower ho0 (zRg zv0)); have n1_ := Aside0.mk (zRd zv0 hb); clear HB; have HO185 := n0_; have HB := n1_; clear n0_ n1_; (try clear hb); (try clear hb2); (try clear hk); (try clear hi); (try clear ho0); obtain ⟨Ao6, co6, eo6⟩ := Kd.R_slice HO185.out; subst eo6))
   go_ret; exact ⟨zv8, zv0⟩
  ·rw [if_neg c4] at H; have c4b0 : decide (80 < (t182.length : Int)) = false := decide_eq_false c4; have c4b1 : decide (80 < t182.length) = false := decide_eq_false zv1; clear c4; obtain rfl := Option.some.inj H; go_enter Tryd.func36, Tryd.ntmps36
   go_wp2_with (first | ((with_reducible refine zRl (f := 21) rfl ?_); refine goesL_ (some 7) rfl rfl Tryd.func21 (by kernel_rfl) rfl #[.string a0] rfl zv3 ?_; (with_reducible refine (paymasterref09_Runes.calls k a0 t182 t183 _ A2.out).mono ?_); rintro e w7 ⟨v184, rfl, ho0, hb⟩; refine ⟨_, rfl, ?_⟩; have n0_ := Aside0.mk (Kd.R_lower ho0 (zRg zv0)); have n1_ := Aside0.mk (zRd zv0 hb); clear HB; have HO185 := n0_; have HB := n1_; clear n0_ n1_; (try clear hb); (try clear hb2); (try clear hk); (try clear hi); (try clear ho0); obtain ⟨Ao8, co8, eo8⟩ := Kd.R_slice HO185.out; subst eo8))
   go_ret; exact ⟨zv8, zv0⟩
 ·rw [if_neg c3] at H; have c3b0 : (t183 == 0) = false := beq_eq_false_iff_ne.mpr c3; have c3b1 : (t183 != 0) = true := bne_iff_ne.mpr c3; obtain rfl := Option.some.inj H; go_enter Tryd.func36, Tryd.ntmps36
  go_wp2_with (first | ((with_reducible refine zRl (f := 21) rfl ?_); refine goesL_ (some 7) rfl rfl Tryd.func21 (by kernel_rfl) rfl #[.string a0] rfl zv3 ?_; (with_reducible refine (paymasterref09_Runes.calls k a0 t182 t183 _ A2.out).mono ?_); rintro e w9 ⟨v184, rfl, ho0, hb⟩; refine ⟨_, rfl, ?_⟩; have n0_ := Aside0.mk (Kd.R_lower ho0 (zRg zv0)); have n1_ := Aside0.mk (zRd zv0 hb); clear HB; have HO185 := n0_; have HB := n1_; clear n0_ n1_; (try clear hb); (try clear hb2); (try clear hk); (try clear hi); (try clear ho0)))
  go_ret; exact ⟨zv8, zv0⟩
end Go.Proofs.YtpkjpiphjdpegaaDoor.P
namespace Go.Proofs.YtpkjpiphjdpegaaDoor.P
open Go.RowKit Go.Proofs.YtpkjpiphjdpegaaDoorW.PrintWords Go.Proofs.YtpkjpiphjdpegaaDoorW.PrintLast Go.Proofs.YtpkjpiphjdpegaaDoorW.PrintMore
set_option linter.unusedVariables false
set_option linter.unusedSimpArgs false
theorem bt_mk (l : List UInt8) (i : Nat) (h : i < l.length) : bt (mk l) (i : Int) = ((l.getD i 0).toNat : Int) := by
 rw [bt_nb]; unfold nb; rw [mk_list, List.getD_eq_getElem?_getD, List.getD_eq_getElem?_getD, List.getElem?_map, List.getElem?_eq_getElem h]; rfl
theorem u8_is (x : UInt8) (n : Nat) (hn : n < 256) : ((x.toNat : Int) = (n : Int)) ↔ x = UInt8.ofNat n := by
 constructor
 ·intro h; apply UInt8.toNat_inj.1; rw [UInt8.toNat_ofNat']; omega
 ·intro h; rw [h, UInt8.toNat_ofNat']; omega
theorem ten_is (x : UInt8) : ((x.toNat : Int) = 10) ↔ x = 10 := u8_is x 10 zv1
theorem b35_is (x : UInt8) : ((x.toNat : Int) = 35) ↔ x = 35 := u8_is x 35 zv1
theorem b32_is (x : UInt8) : ((x.toNat : Int) = 32) ↔ x = 32 := u8_is x 32 zv1
theorem split_at (l : List UInt8) (f i : Nat) (h : f ≤ i) (hi : i ≤ l.length) : l.drop f = (l.take i).drop f ++ l.drop i := by
 conv => lhs; rw [← List.take_append_drop i l]
 rw [List.drop_append_of_le_length zv3d]
theorem refSplit_l0 (l : List UInt8) (hs : l.length ≤ 1000000000) (k : Nat) : ∀ (t i f : Nat) (x : List ByteArray), i + t = l.length → f ≤ i → (∀ b ∈ (l.take i).drop f, b ≠ 10) → x.length ≤ i →
  paymasterref09_Split.l0 (k + 2 + t) (mk l) x (f : Int) (i : Int) = some (x ++ (splitB (l.drop f)).map mk)
 | 0, i, f, x, h, hf, hc, hx => by
  obtain rfl : i = l.length := by omega
  rw [List.take_length] at hc; show paymasterref09_Split.l0 (k + 1 + 1) (mk l) x _ _ = _; rw [paymasterref09_Split.l0, mk_size, if_pos (Int.le_refl _), if_pos rfl, if_pos (show (0 : Int) ≤ (f : Int) by omega), if_pos (show (f : Int) ≤ (l.length : Int) by omega), if_pos (show x.length < 8796093022208 by omega), Int.toNat_natCast, Int.toNat_natCast, wrapI _ zv1 zv1, paymasterref09_Split.l0, mk_size, if_neg zv1, extract_mk, List.take_length, splitB_one _ hc]; rfl
 | t + 1, i, f, x, h, hf, hc, hx => by
  show paymasterref09_Split.l0 (k + 2 + t + 1) (mk l) x _ _ = _; have sp := split_at l f i hf zv1
  have nx : l.drop i = l.getD i 0 :: l.drop (i + 1) := by
   rw [List.drop_eq_getElem_cons zv1, List.getD_eq_getElem?_getD, List.getElem?_eq_getElem zv1]; rfl
  rw [nx] at sp; rw [paymasterref09_Split.l0, mk_size, if_pos (show (i : Int) ≤ (l.length : Int) by omega), if_neg (show ¬ (i : Int) = (l.length : Int) by omega), if_pos (show (0 : Int) ≤ (i : Int) by omega), if_pos (show (i : Int) < (l.length : Int) by omega), bt_mk l i zv1, wrapI _ zv1 zv1, show (i : Int) + 1 = ((i + 1 : Nat) : Int) from by omega]
  by_cases c : l.getD i 0 = 10
  ·rw [if_pos ((ten_is _).2 c), if_pos (show (0 : Int) ≤ (f : Int) by omega), if_pos (show (f : Int) ≤ (i : Int) by omega), if_pos (show x.length < 8796093022208 by omega), Int.toNat_natCast, Int.toNat_natCast, extract_mk]; rw [refSplit_l0 l hs k t (i + 1) (i + 1) _ zv1 (Nat.le_refl _) (by rw [List.drop_of_length_le zv3d]; simp) zv2w]; rw [sp, c, splitB_app, splitB_one _ hc, List.map_append, List.append_assoc]; rfl
  ·rw [if_neg (fun q => c ((ten_is _).1 q))]; refine refSplit_l0 l hs k t (i + 1) f x zv1 zv1 ?_ zv1
   have e : (l.take (i + 1)).drop f = (l.take i).drop f ++ [l.getD i 0] := by
    rw [List.take_succ_eq_append_getElem zv1, List.drop_append_of_le_length zv3d, List.getD_eq_getElem?_getD, List.getElem?_eq_getElem zv1]; rfl
   rw [e]; intro b hb
   rcases List.mem_append.1 hb with q | q
   ·exact hc b q
   ·rw [List.mem_singleton.1 q]; exact c
theorem refSplit_is (s : ByteArray) (hs : s.size ≤ 1000000000) (k : Nat) (hk : s.size + 2 ≤ k) : paymasterref09_Split.f k s = some ((splitB s.data.toList).map mk) := by
 have e : s.data.toList.length = s.size := Array.length_toList; have := refSplit_l0 s.data.toList zv1 (k - 2 - s.size) s.size 0 0 [] zv1 (Nat.le_refl _) zv10 (Nat.le_refl _); rw [show k - 2 - s.size + 2 + s.size = k by omega, mk_of] at this; exact this
theorem refWrong_is (h : List UInt8) (hs : h.length ≤ 1000000000) (k : Nat) (hk : h.length + 11 ≤ k) : paymasterref09_Wrong.f k (mk h) = some (wrongOf h) := by
 unfold paymasterref09_Wrong.f; rw [refRunes_up (mk h) zv34 k zv34, Option.bind_some, mk_list, mk_size]; unfold wrongOf
 by_cases v : Lib.validD h = true
 ·rw [if_pos v, if_pos v, if_pos rfl]
  by_cases q : (zRx (mk h) h.length 0).length > 80
  ·rw [if_pos zv27, if_pos q]
  ·rw [if_neg zv27, if_neg q]
 ·rw [if_neg v, if_neg v, if_neg zvz]
theorem rdOf_mk (L : List (List UInt8)) (i : Nat) (hi : i < L.length) : rdOf ByteArray.empty (L.map mk) (i : Int) = mk (L.getD i []) := by
 unfold rdOf; rw [Int.toNat_natCast, List.getD_eq_getElem?_getD, List.getD_eq_getElem?_getD, List.getElem?_map, List.getElem?_eq_getElem hi]; rfl
theorem same44_l0 (l : List S44) (hl : l.length ≤ 1000000000) (k : Nat) : ∀ (t i : Nat), i + t = l.length → paymasterref10_Same.l0 (k + 1 + t) l l (i : Int) = some true
 | 0, i, h => by
  show paymasterref10_Same.l0 (k + 1) _ _ _ = _; rw [paymasterref10_Same.l0, if_neg zv1]
 | t + 1, i, h => by
  have ih := same44_l0 l hl k t (i + 1) zv1; show paymasterref10_Same.l0 (k + 1 + t + 1) _ _ _ = _; rw [paymasterref10_Same.l0, if_pos (show (i : Int) < (l.length : Int) by omega), if_pos (show (0 : Int) ≤ (i : Int) by omega), if_pos (show (i : Int) < (l.length : Int) by omega), if_neg zv10, wrapI _ zv1 zv1, show (i : Int) + 1 = ((i + 1 : Nat) : Int) from by omega]; exact ih
theorem same44_is (l : List S44) (hl : l.length ≤ 1000000000) (k : Nat) (hk : l.length + 1 ≤ k) : paymasterref10_Same.f k l l = some true := by
 unfold paymasterref10_Same.f; rw [if_pos rfl]; have := same44_l0 l hl (k - 1 - l.length) l.length 0 zv1; rw [show k - 1 - l.length + 1 + l.length = k by omega] at this; exact this
end Go.Proofs.YtpkjpiphjdpegaaDoor.P
