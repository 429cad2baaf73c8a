/- A program of this session wrote this text out of the session's own texts. (part 43 of 45) -/
import Derived.Test.YtpkjpiphjdpegaaDoorCLedgerImportsQ
import Derived.Test.YtpkjpiphjdpegaaDoorCLedgerImports34
import Derived.Test.YtpkjpiphjdpegaaDoorCLedgerImports36
import Derived.Test.YtpkjpiphjdpegaaDoorCLedgerImports42
namespace Go.Proofs.YtpkjpiphjdpegaaDoor.P
open Go.RowKit Go.Proofs.YtpkjpiphjdpegaaDoorW.PrintWords Go.Proofs.YtpkjpiphjdpegaaDoorW.PrintLast Go.Proofs.YtpkjpiphjdpegaaDoorW.PrintMore
open Go.Proofs.YtpkjpiphjdpegaaDoor.Z
set_option linter.unusedVariables false
set_option linter.unusedSimpArgs false
theorem refFind_l0 (l : List S44) (hl : l.length ≤ 1000000) (id : ByteArray) (k : Nat) : ∀ (t i : Nat), i + t = l.length → ∃ a b c, paymasterref11_Find.l0 (k + 1 + t) l id (i : Int) = some (a, b, c, idIn (l.drop i) id)
 | 0, i, h => by
  obtain rfl : i = l.length := by omega
  refine ⟨(⟨#[]⟩ : ByteArray), 0, 0, ?_⟩; show paymasterref11_Find.l0 (k + 1) _ _ _ = _; rw [paymasterref11_Find.l0, if_neg zv1, List.drop_length]; rfl
 | t + 1, i, h => by
  have hi : i < l.length := by omega
  have nx : l.drop i = l[i] :: l.drop (i + 1) := List.drop_eq_getElem_cons hi; have w1 : wrap64 ((i : Int) + 1) = ((i + 1 : Nat) : Int) := by rw [wrapI _ zv1 zv1]; push_cast; rfl
  have e : idIn (l[i] :: l.drop (i + 1)) id = (l[i].f0.toList == id.toList || idIn (l.drop (i + 1)) id) := rfl; rw [show k + 1 + (t + 1) = (k + 1 + t) + 1 by omega, paymasterref11_Find.l0, if_pos zv1, if_pos zv1, rd44 l i hi, nx, e, w1]
  by_cases c : l[i].f0.toList = id.toList
  ·rw [if_pos c, beq_iff_eq.2 c, Bool.true_or]; exact ⟨_, _, _, rfl⟩
  ·rw [if_neg c, beq_eq_false_iff_ne.2 c, Bool.false_or]; exact refFind_l0 l hl id k t (i + 1) zv1
theorem refFind_is (l : List S44) (hl : l.length ≤ 1000000) (id : ByteArray) (k : Nat) (hk : l.length + 1 ≤ k) : ∃ a b c, paymasterref11_Find.f k l id = some (a, b, c, idIn l id) := by
 have := refFind_l0 l hl id (k - 1 - l.length) l.length 0 zv1; rw [show k - 1 - l.length + 1 + l.length = k by omega, List.drop_zero] at this; exact this
theorem refTotal_l0 (l : List S44) (hl : l.length ≤ 1000000) (ho : ∀ y ∈ l, okA y) (k : Nat) : ∀ (t i : Nat), i + t = l.length → sumOf (l.take i) < m128 →
  ∃ a b, paymasterref11_Total.l0 (k + 51 + t) l (i : Int) (hiOf (sumOf (l.take i))) (loOf (sumOf (l.take i))) = some (a, b, if sumOf l < m128 then 0 else 112)
 | 0, i, h, hs => by
  obtain rfl : i = l.length := by omega
  rw [List.take_length] at hs ⊢; refine ⟨hiOf (sumOf l), loOf (sumOf l), ?_⟩; show paymasterref11_Total.l0 (k + 50 + 1) _ _ _ _ = _; rw [paymasterref11_Total.l0, if_neg zv1, if_pos hs]
 | t + 1, i, h, hs => by
  have hi : i < l.length := by omega
  have w1 : wrap64 ((i : Int) + 1) = ((i + 1 : Nat) : Int) := by rw [wrapI _ zv1 zv1]; push_cast; rfl
  have om := ho _ (List.getElem_mem hi)
  have tk : sumOf (l.take (i + 1)) = sumOf (l.take i) + amtR l[i] := by
   rw [List.take_succ_eq_append_getElem hi, sumOf_snoc]
  have pre := sumOf_ge (l.take i) fun y hy => ho y (List.mem_of_mem_take hy)
  have suf := sumOf_ge (l.drop (i + 1)) fun y hy => ho y (List.mem_of_mem_drop hy)
  have all : sumOf l = sumOf (l.take (i + 1)) + sumOf (l.drop (i + 1)) := by rw [← sumOf_app, List.take_append_drop]
  have am : amtR l[i] = val l[i].f1.f0 l[i].f1.f1 := rfl; have uu := u_hiOf (sumOf (l.take i)) pre hs; rw [show k + 51 + (t + 1) = (k + 1 + t + 50) + 1 by omega, paymasterref11_Total.l0, if_pos zv1, if_pos zv1, rd44 l i hi, refAdd_is _ _ _ _ _ uu.1 uu.2 om.1 om.2, add_num _ _ _ _ uu.1 uu.2 om.1 om.2, val_halves, ← am, ← tk]
  by_cases c : sumOf (l.take (i + 1)) < m128
  ·rw [if_pos c, Option.bind_some]; dsimp only; rw [if_pos rfl, w1, show k + 1 + t + 50 = k + 51 + t by omega]; exact refTotal_l0 l hl ho k t (i + 1) zv1 c
  ·rw [if_neg c, Option.bind_some]; dsimp only; rw [if_neg zvz, if_neg zv1]; exact ⟨_, _, rfl⟩
theorem refTotal_is (l : List S44) (hl : l.length ≤ 1000000) (ho : ∀ y ∈ l, okA y) (k : Nat) (hk : l.length + 51 ≤ k) : ∃ a b, paymasterref11_Total.f k l = some (a, b, if sumOf l < m128 then 0 else 112) := by
 have := refTotal_l0 l hl ho (k - 51 - l.length) l.length 0 zv1 (by show (0 : Int) < m128; decide); rw [show k - 51 - l.length + 51 + l.length = k by omega] at this; exact this
theorem refPut_is (most : Int) (l : List S44) (y : S44) (hg : Good most l) (hl : l.length ≤ 100000) (ho : ∀ z ∈ l, okA z) (hy : okA y) (k : Nat) (hk : l.length + 60 ≤ k) : paymasterref11_put.f k l y.f0 y.f1.f0 y.f1.f1 most = some (putErr most l y) := by
 have gl := hg.len; unfold paymasterref11_put.f putErr
 by_cases c : (l.length : Int) = most
 ·rw [if_pos zv1, if_pos c]
 ·rw [if_neg zv1, if_neg c]; obtain ⟨a, b, d, e⟩ := refFind_is l zv1 y.f0 k zv1; rw [e, Option.bind_some]; dsimp only
  by_cases q : idIn l y.f0 = true
  ·rw [if_pos q, if_pos q]
  ·have ol : ∀ z ∈ l ++ [y], okA z := fun z hz => by
    rcases List.mem_append.1 hz with h | h
    ·exact ho z h
    ·rw [List.mem_singleton.1 h]; exact hy
   obtain ⟨a', b', e'⟩ := refTotal_is (l ++ [y]) zv2w ol k zv2w; rw [if_neg q, if_neg q, Option.bind_some, if_pos (by rw [List.length_nil]; omega), Option.bind_some, Option.bind_some, List.nil_append, if_pos (by rw [List.length_singleton]; omega)]; have e2 : paymasterref11_Total.f k (l ++ [(⟨y.f0, (⟨y.f1.f0, y.f1.f1⟩ : S42)⟩ : S44)]) = some (a', b', if sumOf (l ++ [y]) < m128 then 0 else 112) := e'; rw [e2, Option.bind_some, sumOf_snoc]
theorem refMost_l0 (h : Nat) (hh : h ≤ 10) (k : Nat) : ∀ (t i : Nat), i + t = h → paymasterref11_most.l0 (k + 1 + t) (h : Int) ((2 ^ i : Nat) : Int) (i : Int) = some ((2 ^ h : Nat) : Int)
 | 0, i, e => by
  obtain rfl : i = h := by omega
  show paymasterref11_most.l0 (k + 1) _ _ _ = _; rw [paymasterref11_most.l0, if_neg zv1]
 | t + 1, i, e => by
  have w1 : wrap64 ((i : Int) + 1) = ((i + 1 : Nat) : Int) := by rw [wrapI _ zv1 zv1]; push_cast; rfl
  have b : 2 ^ i ≤ 2 ^ 10 := Nat.pow_le_pow_right zvz zv1; have c : 2 ^ (i + 1) = 2 * 2 ^ i := by rw [Nat.pow_succ]; omega
  have w2 : wrap64 (2 * ((2 ^ i : Nat) : Int)) = ((2 ^ (i + 1) : Nat) : Int) := by
   rw [c]; generalize 2 ^ i = p at b; rw [wrapI _ zv1 zv1]; omega
  rw [show k + 1 + (t + 1) = (k + 1 + t) + 1 by omega, paymasterref11_most.l0, if_pos zv1, w1, w2]; exact refMost_l0 h hh k t (i + 1) zv1
theorem refMost_is (h : Nat) (hh : h ≤ 10) (k : Nat) (hk : 20 ≤ k) : paymasterref11_most.f k (h : Int) = some ((2 ^ h : Nat) : Int) := by
 have := refMost_l0 h hh (k - 1 - h) h 0 zv1; rw [show k - 1 - h + 1 + h = k by omega] at this; exact this
theorem refImport_l0 (h : Nat) (hh : h ≤ 10) (L : List (List UInt8)) (M : Nat) (hM : M ≤ 100000) (hl : L.length ≤ 100000) (hs : ∀ x ∈ L, x.length ≤ M) (K : Nat) (r : List S44 × Int × Int) (hS : ∀ k, K ≤ k → paymasterref10_Sort.f k r.1 = some (sortL rowKey r.1)) (k : Nat) (hk : K ≤ k) :
  ∀ (t i : Nat) (acc : List S44), i + t = L.length → acc.length ≤ i → Good ((2 ^ h : Nat) : Int) acc → (∀ z ∈ acc, okA z) → impL ((2 ^ h : Nat) : Int) ((i : Int) + 1) acc (L.drop i) = r →
  paymasterref11_Import.l0 (k + 3 * M + 200000 + t) (h : Int) (L.map mk) acc (i : Int) = some (sortL rowKey r.1, r.2.1, r.2.2)
 | 0, i, acc, e, ha, hg, ho, hr => by
  obtain rfl : i = L.length := by omega
  rw [List.drop_length] at hr; subst hr; show paymasterref11_Import.l0 (k + 3 * M + 199999 + 1) _ _ _ _ = _; rw [paymasterref11_Import.l0, List.length_map, if_neg zv1]; have q := hS (k + 3 * M + 199999) zv1; show (paymasterref10_Sort.f (k + 3 * M + 199999) acc).bind _ = _; have q' : paymasterref10_Sort.f (k + 3 * M + 199999) acc = some (sortL rowKey acc) := q; rw [q', Option.bind_some]; rfl
 | t + 1, i, acc, e, ha, hg, ho, hr => by
  have hi : i < L.length := by omega
  have nx : L.drop i = L[i] :: L.drop (i + 1) := List.drop_eq_getElem_cons hi; have gd : L.getD i [] = L[i] := by rw [List.getD_eq_getElem?_getD, List.getElem?_eq_getElem hi]; rfl
  have hb := hs _ (List.getElem_mem hi); have w1 : wrap64 ((i : Int) + 1) = ((i + 1 : Nat) : Int) := by rw [wrapI _ zv1 zv1]; push_cast; rfl
  rw [nx, impL] at hr; rw [show k + 3 * M + 200000 + (t + 1) = (k + 3 * M + 200000 + t) + 1 by omega, paymasterref11_Import.l0, List.length_map, if_pos zv1, if_pos zv1, rdOf_mk L i hi, gd, refOne_is _ zv1 _ zv1, Option.bind_some, w1]
  by_cases c : (oneB L[i]).2.2.2.2 = 0
  ·rw [if_pos c] at hr ⊢
   by_cases z : (oneB L[i]).2.2.2.1 = true
   ·have rq : rowQ L[i] = [⟨(oneB L[i]).1, ⟨(oneB L[i]).2.1, (oneB L[i]).2.2.1⟩⟩] := by unfold rowQ; rw [if_pos z]
    have oy := (rowQ_is L[i] ⟨(oneB L[i]).1, ⟨(oneB L[i]).2.1, (oneB L[i]).2.2.1⟩⟩ (by rw [rq]; exact List.mem_singleton.2 rfl)).2; have P := refPut_is ((2 ^ h : Nat) : Int) acc ⟨(oneB L[i]).1, ⟨(oneB L[i]).2.1, (oneB L[i]).2.2.1⟩⟩ hg zv1 ho oy (k + 3 * M + 200000 + t) zv1; rw [if_pos z] at hr ⊢; rw [refMost_is h hh _ zv1, Option.bind_some]; have P' : paymasterref11_put.f (k + 3 * M + 200000 + t) acc (oneB L[i]).1 (oneB L[i]).2.1 (oneB L[i]).2.2.1 ((2 ^ h : Nat) : Int) = some (putErr ((2 ^ h : Nat) : Int) acc ⟨(oneB L[i]).1, ⟨(oneB L[i]).2.1, (oneB L[i]).2.2.1⟩⟩) := P; rw [P', Option.bind_some]
    by_cases pz : putErr ((2 ^ h : Nat) : Int) acc ⟨(oneB L[i]).1, ⟨(oneB L[i]).2.1, (oneB L[i]).2.2.1⟩⟩ = 0
    ·rw [if_pos pz] at hr ⊢; rw [if_pos zv1]; refine refImport_l0 h hh L M hM hl hs K r hS k hk t (i + 1) _ zv1 zv2w ((put_ok hg).1 pz) (fun y hy => ?_) ?_
     ·rcases List.mem_append.1 hy with q | q
      ·exact ho y q
      ·rw [List.mem_singleton.1 q]; exact oy
     ·rw [← hr]
      push_cast
      rfl
    ·rw [if_neg pz] at hr ⊢; rw [← hr]; show _ = some (sortL rowKey [], (i : Int) + 1, _)
     push_cast
     rfl
   ·rw [if_neg z] at hr ⊢; refine refImport_l0 h hh L M hM hl hs K r hS k hk t (i + 1) acc zv1 zv1 hg ho ?_; rw [← hr]
    push_cast
    rfl
  ·rw [if_neg c] at hr ⊢; rw [← hr]; show _ = some (sortL rowKey [], (i : Int) + 1, _)
   push_cast
   rfl
theorem refImport_is (s : ByteArray) (hs : s.size ≤ 4000) (h : Int) : ∃ K, ∀ k, K ≤ k → paymasterref11_Import.f k s h = some (importOf s h) := by
 by_cases hb : h < 0 ∨ 10 < h
 ·refine ⟨1, fun k hk => ?_⟩; obtain ⟨j, rfl⟩ : ∃ j, k = j + 1 := ⟨k - 1, zv1⟩
  rw [importOf_bad s h hb]; have J : paymasterref11_Import.j0 (j + 1) s h true = some (([] : List S44), 0, 120) := by rw [paymasterref11_Import.j0, if_pos rfl]
  unfold paymasterref11_Import.f
  by_cases c : h < 0
  ·rw [if_pos c]; exact J
  ·rw [if_neg c, decide_eq_true zv1]; exact J
 ·obtain ⟨m, rfl⟩ : ∃ m : Nat, h = (m : Int) := ⟨h.toNat, zv1⟩
  have e : s.data.toList.length = s.size := Array.length_toList; have sl := splitB_len s.data.toList; have sz := fun x hx => splitB_size s.data.toList x hx
  have G0 : Good ((2 ^ m : Nat) : Int) [] := good_nil (Int.natCast_nonneg _); obtain ⟨_, i2, i3⟩ := imp_ok (most := ((2 ^ m : Nat) : Int)) (splitB s.data.toList) [] 1 G0
  have hm : ((2 ^ m : Nat) : Int) ≤ 1024 := by
   have q : m = 0 ∨ m = 1 ∨ m = 2 ∨ m = 3 ∨ m = 4 ∨ m = 5 ∨ m = 6 ∨ m = 7 ∨ m = 8 ∨ m = 9 ∨ m = 10 := by omega
   rcases q with rfl | rfl | rfl | rfl | rfl | rfl | rfl | rfl | rfl | rfl | rfl <;> decide
  have rl : (impL ((2 ^ m : Nat) : Int) 1 [] (splitB s.data.toList)).1.length ≤ 2000 := by
   by_cases z : (impL ((2 ^ m : Nat) : Int) 1 [] (splitB s.data.toList)).2.2 = 0
   ·have a := (i2 z).2.1.len; rw [(i2 z).2.2]; show ([] ++ rowsQ _ : List S44).length ≤ 2000; omega
   ·rw [(i3 z).1]; exact Nat.zero_le _
  obtain ⟨K, hK⟩ := refSort_is _ rl; refine ⟨K + 300000, fun k hk => ?_⟩; obtain ⟨j, rfl⟩ : ∃ j, k = j + 1 := ⟨k - 1, zv1⟩
  have R := refImport_l0 m zv1 (splitB s.data.toList) 4000 zv1 zv1 (fun x hx => by have := sz x hx; omega) K _ hK (j - 3 * 4000 - 200000 - (splitB s.data.toList).length) zv1 (splitB s.data.toList).length 0 [] zv1 (Nat.le_refl _) G0 (fun z hz => by cases hz) rfl; rw [show j - 3 * 4000 - 200000 - (splitB s.data.toList).length + 3 * 4000 + 200000 + (splitB s.data.toList).length = j by omega] at R; rw [importOf_ok s _ hb zv1, Int.toNat_natCast]; unfold paymasterref11_Import.f; rw [if_neg zv1, decide_eq_false zv1, paymasterref11_Import.j0, if_neg zvz, if_neg zv1, refSplit_is s zv1 j zv1, Option.bind_some]; exact R
end Go.Proofs.YtpkjpiphjdpegaaDoor.P
