/- A program of this session wrote this text out of the session's own texts. (part 34 of 45) -/
import Derived.Test.YtpkjpiphjdpegaaDoorCLedgerImportsQ
import Derived.Test.YtpkjpiphjdpegaaDoorCLedgerImports4
import Derived.Test.YtpkjpiphjdpegaaDoorCLedgerImports5
import Derived.Test.YtpkjpiphjdpegaaDoorCLedgerImports8
import Derived.Test.YtpkjpiphjdpegaaDoorCLedgerImports20
import Derived.Test.YtpkjpiphjdpegaaDoorCLedgerImports25
import Derived.Test.YtpkjpiphjdpegaaDoorCLedgerImports27
import Derived.Test.YtpkjpiphjdpegaaDoorCLedgerImports28
import Derived.Test.YtpkjpiphjdpegaaDoorCLedgerImports29
import Derived.Test.YtpkjpiphjdpegaaDoorCLedgerImports32
import Derived.Test.YtpkjpiphjdpegaaDoorCLedgerImports33
import Derived.Test.YtpkjpiphjdpegaaDoorProg
import Derived.Lib.IndexAny
import Derived.Laws.Bits64
namespace Go.Proofs.YtpkjpiphjdpegaaDoor.P
open Go.RowKit Go.Proofs.YtpkjpiphjdpegaaDoorW.PrintWords Go.Proofs.YtpkjpiphjdpegaaDoorW.PrintLast Go.Proofs.YtpkjpiphjdpegaaDoorW.PrintMore
set_option linter.unusedVariables false
set_option linter.unusedSimpArgs false
def cutAt (c : UInt8) : List UInt8 → Option (List UInt8 × List UInt8)
 | [] => none
 | b :: l => if b = c then some ([], l) else (cutAt c l).map fun p => (b :: p.1, p.2)
theorem cutAt_app (c : UInt8) : ∀ (p r : List UInt8), (∀ b ∈ p, b ≠ c) → cutAt c (p ++ r) = (cutAt c r).map fun q => (p ++ q.1, q.2)
 | [], r, _ => by rw [List.nil_append]; cases cutAt c r <;> rfl
 | b :: p, r, h => by
  rw [List.cons_append, cutAt, if_neg (h b (List.mem_cons_self ..)), cutAt_app c p r fun x hx => h x (List.mem_cons_of_mem _ hx)]; cases cutAt c r <;> rfl
theorem cutAt_clean (c : UInt8) (p : List UInt8) (h : ∀ b ∈ p, b ≠ c) : cutAt c p = none := by
 have := cutAt_app c p [] h; rw [List.append_nil] at this; rw [this]; rfl
theorem cutAt_some {c : UInt8} : ∀ {l h t : List UInt8}, cutAt c l = some (h, t) → l = h ++ c :: t ∧ ∀ b ∈ h, b ≠ c
 | [], h, t, e => by cases e
 | b :: l, h, t, e => by
  rw [cutAt] at e
  by_cases q : b = c
  ·rw [if_pos q] at e; cases e; rw [q]; exact ⟨rfl, zv10⟩
  ·rw [if_neg q] at e; cases k : cutAt c l with
   | none => rw [k] at e; cases e
   | some p =>
    rw [k] at e; cases e; obtain ⟨h', t'⟩ := p; obtain ⟨e1, e2⟩ := cutAt_some k; refine ⟨by rw [e1]; rfl, fun x hx => ?_⟩
    rcases List.mem_cons.1 hx with rfl | hx
    ·exact q
    ·exact e2 x hx
theorem cutAt_none {c : UInt8} : ∀ {l : List UInt8}, cutAt c l = none → ∀ b ∈ l, b ≠ c
 | [], _ => by simp
 | b :: l, e => by
  rw [cutAt] at e
  by_cases q : b = c
  ·rw [if_pos q] at e; cases e
  ·rw [if_neg q] at e; cases k : cutAt c l with
   | none =>
    intro x hx
    rcases List.mem_cons.1 hx with rfl | hx
    ·exact q
    ·exact cutAt_none k x hx
   | some p => rw [k] at e; cases e
theorem index_clean (c : UInt8) : ∀ (l : List UInt8), (∀ b ∈ l, b ≠ c) → Lib.indexByte l c = -1
 | [], _ => rfl
 | b :: l, h => by
  have ih := index_clean c l fun x hx => h x (List.mem_cons_of_mem _ hx)
  rw [Lib.indexByte, if_neg (by simpa using h b (List.mem_cons_self ..)), ih]; rfl
theorem index_cut (c : UInt8) : ∀ (h t : List UInt8), (∀ b ∈ h, b ≠ c) → Lib.indexByte (h ++ c :: t) c = (h.length : Int)
 | [], t, _ => by rw [List.nil_append, Lib.indexByte, if_pos zv10]; rfl
 | b :: h, t, k => by
  have ih := index_cut c h t fun x hx => k x (List.mem_cons_of_mem _ hx)
  rw [List.cons_append, Lib.indexByte, if_neg (by simpa using k b (List.mem_cons_self ..)), ih, if_neg zv10, List.length_cons]
  push_cast
  rfl
theorem cut_is (l : List UInt8) (hs : l.length ≤ 1000000000) (c : UInt8) : strings_Cut.f (mk l) (⟨#[c]⟩ : ByteArray) = some (match cutAt c l with
  | none => (mk l, (⟨#[]⟩ : ByteArray), false)
  | some (h, t) => (mk h, mk t, true)) := by
 have ix : stringslite_Index.f (mk l) (⟨#[c]⟩ : ByteArray) = some (Lib.indexByte l c) := by
  unfold stringslite_Index.f; rw [if_pos (show (⟨#[c]⟩ : ByteArray).data.toList.length = 1 from rfl), mk_list]; rfl
 have h1 : ((⟨#[c]⟩ : ByteArray).size : Int) = 1 := rfl; unfold strings_Cut.f stringslite_Cut.f; rw [ix, Option.bind_some]; cases k : cutAt c l with
 | none =>
  rw [index_clean c l (cutAt_none k), if_neg zv1, Option.bind_some]
 | some p =>
  obtain ⟨h, t⟩ := p; obtain ⟨e1, e2⟩ := cutAt_some k; have ll : l.length = h.length + (t.length + 1) := by rw [e1, List.length_append, List.length_cons]
  have w1 : wrap64 ((h.length : Int) + 1) = ((h.length + 1 : Nat) : Int) := by unfold wrap64; push_cast; omega
  have ei : Lib.indexByte l c = (h.length : Int) := by rw [e1]; exact index_cut c h t e2
  rw [ei, if_pos zv1, if_pos zv1, mk_size, if_pos zv1, h1, w1, if_pos zv1, if_pos zv1, Option.bind_some, Int.toNat_natCast, Int.toNat_natCast, extract_mk, extract_mk, List.drop_zero, List.take_length, e1]; rw [List.take_left, show h ++ c :: t = (h ++ [c]) ++ t by simp, List.drop_left' zv10]
def zRw (l : List UInt8) : ByteArray × Int × Int × Int := match cutAt 32 l with
 | none => ((⟨#[]⟩ : ByteArray), 0, 0, 100)
 | some (h, t) => if mayId (mk h) = true then (if (parseOf (nb (mk t))).2.2 = 0 then (mk h, (parseOf (nb (mk t))).1, (parseOf (nb (mk t))).2.1, 0) else ((⟨#[]⟩ : ByteArray), 0, 0, 102)) else ((⟨#[]⟩ : ByteArray), 0, 0, 101)
theorem mayId_f (s : ByteArray) (hs : s.size ≤ 1000000000) : tag_MayId.f s = some (mayId s) := if_pos hs
theorem parse_is (l : List UInt8) (hs : l.length ≤ 1000000000) : row_Parse.f (mk l) = some (zRw l) := by
 unfold row_Parse.f zRw; rw [cut_is l hs, Option.bind_some]; cases k : cutAt 32 l with
 | none =>
  dsimp only; rw [parse_num _ (by show 0 ≤ _; omega), Option.bind_some, if_neg zvz]
 | some p =>
  obtain ⟨h, t⟩ := p; obtain ⟨e1, e2⟩ := cutAt_some k; have ll : l.length = h.length + (t.length + 1) := by rw [e1, List.length_append, List.length_cons]
  dsimp only; rw [parse_num _ zv34, Option.bind_some, if_pos rfl, mayId_f _ zv34, Option.bind_some]
  by_cases m : mayId (mk h) = true
  ·rw [if_pos m, if_pos m]
   by_cases e : (parseOf (nb (mk t))).2.2 = 0
   ·rw [if_pos e, if_pos e]
   ·rw [if_neg e, if_neg e]
  ·rw [if_neg m, if_neg m]
def rowText (id : ByteArray) (a b : Int) : ByteArray × Int := if mayId id = true then ((id ++ (⟨#[32]⟩ : ByteArray)) ++ strOfNums (asc (dec (val a b))), 0) else ((⟨#[]⟩ : ByteArray), 101)
def oneB (h : List UInt8) : ByteArray × Int × Int × Bool × Int :=
 if wrongOf h = 0 then (if kindOf h = 2 then ((zRw h).1, (zRw h).2.1, (zRw h).2.2.1, ((zRw h).2.2.2 == 0), (zRw h).2.2.2) else ((⟨#[]⟩ : ByteArray), 0, 0, false, 0)) else ((⟨#[]⟩ : ByteArray), 0, 0, false, wrongOf h)
theorem of_is (n : Int) (h : List UInt8) (hs : h.length ≤ 1000000000) : row_Of.f n (mk h) (kindOf h) (wrongOf h) = some (oneB h) := by
 unfold row_Of.f oneB
 by_cases c : wrongOf h = 0
 ·rw [if_pos c, if_pos c]
  by_cases q : kindOf h = 2
  ·rw [if_pos q, if_pos q, parse_is h hs, Option.bind_some]
  ·rw [if_neg q, if_neg q]
 ·rw [if_neg c, if_neg c]
theorem mayId_facts (id : ByteArray) (m : mayId id = true) : ∃ L : List Int, L.any oddR = false ∧ L.flatMap enc = nb id ∧ (∀ c ∈ L, 45 ≤ c) ∧ 1 ≤ L.length ∧ L.length ≤ 24 := by
 unfold mayId at m; rw [Bool.and_eq_true, Bool.and_eq_true, decide_eq_true_eq, List.all_eq_true] at m; obtain ⟨⟨v, a⟩, l⟩ := m; obtain ⟨h1, h2, h3, h4⟩ := runes_enc id id.size 0 zv1 v; refine ⟨zRx id id.size 0, h1, h2, fun c hc => ?_, l.1, l.2⟩; have := a c hc; unfold withinR at this; rw [decide_eq_true_eq] at this; omega
theorem mayId_one (id : ByteArray) (m : mayId id = true) : 1 ≤ id.data.toList.length ∧ id.size ≤ 96 := by
 obtain ⟨L, h1, h2, h3, h4, h5⟩ := mayId_facts id m; have hl := nb_length id; have e : id.data.toList.length = id.size := Array.length_toList
 have f4 : ∀ L : List Int, (L.flatMap enc).length ≤ 4 * L.length := by
  intro L
  induction L with
  | nil => simp
  | cons c L ih =>
   have := enc_len c; rw [List.flatMap_cons, List.length_append, List.length_cons]; omega
 have f1 : ∀ L : List Int, L.any oddR = false → (∀ c ∈ L, 45 ≤ c) → L.length ≤ (L.flatMap enc).length := by
  intro L
  induction L with
  | nil => simp
  | cons c L ih =>
   intro ho hc; rw [List.any_cons, Bool.or_eq_false_iff] at ho; have h45 := hc c (List.mem_cons_self ..); have := ih ho.2 fun x hx => hc x (List.mem_cons_of_mem _ hx)
   have n1 := (enc_ne c.toNat (by rw [show ((c.toNat : Nat) : Int) = c by omega]; exact ho.1)).1; rw [show ((c.toNat : Nat) : Int) = c by omega] at n1; rw [List.flatMap_cons, List.length_append, List.length_cons]; omega
 have a := f4 L; have b := f1 L h1 h3; rw [h2, hl] at a b; omega
theorem parse_line (l : List UInt8) (h : (zRw l).2.2.2 = 0) : rowText (zRw l).1 (zRw l).2.1 (zRw l).2.2.1 = (mk l, 0) ∧ U64 (zRw l).2.1 ∧ U64 (zRw l).2.2.1 ∧ mayId (zRw l).1 = true := by
 unfold zRw at h ⊢; cases k : cutAt 32 l with
 | none => rw [k] at h; exact absurd h zvz
 | some p =>
  obtain ⟨x, t⟩ := p; rw [k] at h; dsimp only at h ⊢
  by_cases m : mayId (mk x) = true
  ·rw [if_pos m] at h ⊢
   by_cases z : (parseOf (nb (mk t))).2.2 = 0
   ·rw [if_pos z]; dsimp only; obtain ⟨e1, e2⟩ := cutAt_some k
    have nn : noNum (nb (mk t)) = false := by
     cases q : noNum (nb (mk t)) with
     | false => rfl
     | true => unfold parseOf at z; rw [if_pos q] at z; exact absurd z zvz
    have lt : valD (unasc (nb (mk t))) < m128 := by
     by_cases q : valD (unasc (nb (mk t))) < m128
     ·exact q
     ·unfold parseOf at z; rw [if_neg (by rw [nn]; decide), if_neg q] at z; exact absurd z zvz
    have ge := parse_range _ nn
    have pe : parseOf (nb (mk t)) = (hiOf (valD (unasc (nb (mk t)))), loOf (valD (unasc (nb (mk t)))), 0) := by
     unfold parseOf; rw [if_neg (by rw [nn]; decide), if_pos lt]
    rw [pe]; dsimp only
    have vv : val (hiOf (valD (unasc (nb (mk t))))) (loOf (valD (unasc (nb (mk t))))) = valD (unasc (nb (mk t))) := by
     unfold val hiOf loOf; omega
    refine ⟨?_, ?_, ?_, m⟩
    ·unfold rowText; rw [if_pos m, vv, text_parse _ nn lt, nb_str, e1]
     congr 1
     apply ByteArray.ext; apply Array.toList_inj.1; rw [ByteArray.data_append, ByteArray.data_append, Array.toList_append, Array.toList_append, mk_list, mk_list, mk_list, List.append_assoc]; rfl
    ·unfold U64 hiOf; unfold m128 at lt
     constructor <;> omega
    ·unfold U64 loOf
     constructor <;> omega
   ·rw [if_neg z] at h; exact absurd h zvz
  ·rw [if_neg m] at h; exact absurd h zvz
theorem parse_bad (l : List UInt8) (h : (zRw l).2.2.2 ≠ 0) : zRw l = ((⟨#[]⟩ : ByteArray), 0, 0, (zRw l).2.2.2) ∧ ((zRw l).2.2.2 = 100 ∨ (zRw l).2.2.2 = 101 ∨ (zRw l).2.2.2 = 102) := by
 unfold zRw at h ⊢; cases k : cutAt 32 l with
 | none => exact ⟨rfl, .inl rfl⟩
 | some p =>
  obtain ⟨x, t⟩ := p; rw [k] at h; dsimp only at h ⊢
  by_cases m : mayId (mk x) = true
  ·rw [if_pos m] at h ⊢
   by_cases z : (parseOf (nb (mk t))).2.2 = 0
   ·rw [if_pos z] at h; exact absurd rfl h
   ·rw [if_neg z]; exact ⟨rfl, .inr (.inr rfl)⟩
  ·rw [if_neg m]; exact ⟨rfl, .inr (.inl rfl)⟩
theorem rd44 (l : List S44) (i : Nat) (hi : i < l.length) : rd_T44 l (i : Int) = l[i] := by
 unfold rd_T44; rw [Int.toNat_natCast, List.getD_eq_getElem?_getD, List.getElem?_eq_getElem hi]; rfl
end Go.Proofs.YtpkjpiphjdpegaaDoor.P
namespace Go.Proofs.YtpkjpiphjdpegaaDoor.P
open Go.RowKit Go.Proofs.YtpkjpiphjdpegaaDoorW.PrintWords Go.Proofs.YtpkjpiphjdpegaaDoorW.PrintLast Go.Proofs.YtpkjpiphjdpegaaDoorW.PrintMore
attribute [local go_sem] max2_int min2_int max_two min_two max_three min_three max_four min_four
set_option linter.unusedVariables false
set_option linter.unusedSimpArgs false
def paymasterref10_Parse.l0 : Nat → ByteArray → Int → Option (ByteArray × Int × Int × Int)
 | 0, _, _ => none
 | k + 1, x0, x4 => if x4 < (x0.size : Int) then (if 0 ≤ x4 then (if (bt x0 x4) = 32 then (if x4 ≤ (x0.size : Int) then ((paymasterref07_MayId.f k (x0.extract 0 (x4 : Int).toNat)).bind fun t449 => (if t449 = true then (if 0 ≤ (wrap64 (x4 + 1)) then (if (wrap64 (x4 + 1)) ≤ (x0.size : Int) then ((paymasterref02_Parse.f k (x0.extract ((wrap64 (x4 + 1)) : Int).toNat x0.size)).bind fun bt450 => (if bt450.2.2 = 0 then (some (x0.extract 0 (x4 : Int).toNat, bt450.1, bt450.2.1, 0)) else (some ((⟨#[]⟩ : ByteArray), 0, 0, 102)))) else (none)) else (none)) else (some ((⟨#[]⟩ : ByteArray), 0, 0, 101)))) else (none)) else (paymasterref10_Parse.l0 k x0 (wrap64 (x4 + 1)))) else (none)) else (some ((⟨#[]⟩ : ByteArray), 0, 0, 100))
def paymasterref10_Parse.f (k : Nat) (a0 : ByteArray) : Option (ByteArray × Int × Int × Int) := paymasterref10_Parse.l0 k a0 0
set_option maxHeartbeats 8000000 in
set_option maxRecDepth 100000 in
theorem paymasterref10_Parse.calls (k : Nat) (a0 : ByteArray) (r1 : ByteArray) (r2 : Int) (r3 : Int) (r4 : Int) (w : World) (h : paymasterref10_Parse.f k a0 = some (r1, r2, r3, r4)) :
  Calls Tryd.prog 44 #[.string a0] w fun e w' => e = .returned (.tuple #[.agg #[.string r1, .int .u64 r2, .int .u64 r3], .int .i64 r4]) ∧ Below w.heap.size w w' := by
 have hu44 := Tryd.underlying44; have hu42 := Tryd.underlying42; have HB := Aside0.mk (Below.refl w.heap.size w); have H : (paymasterref10_Parse.l0 k a0 0) = some (r1, r2, r3, r4) := h; clear h; have H' := Aside0.mk H; clear H; go_enter Tryd.func44, Tryd.ntmps44
 go_wp2_with (first | ((with_reducible refine zRq (N := 2) rfl ?_); refine zRn ?hg (N := 2) ?hd (cs := #[.string (⟨#[]⟩ : ByteArray), .int .u64 0, .int .u64 0]) (t := 44) ?hr ?_; (case hd => rfl); (case hg => rfl); (case hr => first | (go_simp; done) | (go_simp; rfl)); intro gb448 hg w2 hbox hb; have n0_ := Aside0.mk (zRd zv0 hb); have n1_ := Aside0.mk (hbox); have n2_ := Aside0.mk ((zv3w : w.heap.size ≤ gb448)); have n3_ := Aside0.mk ((zv3w : w.heap.size ≤ gb448)); clear HB; have HB := n0_; have BK448 := n1_; have GW448 := n2_; have GE448 := n3_; clear n0_ n1_ n2_ n3_; clear hb hbox hg))
 go_loopg [4] k (fun kq v4 w' => ∃ (x4_1 : Int) (x449000_1 : ByteArray) (x449001_1 : Int) (x449002_1 : Int), v4 = .int .i64 x4_1 ∧ Aside0 (paymasterref10_Parse.l0 kq a0 x4_1 = some (r1, r2, r3, r4)) ∧ Aside0 (kq ≤ k) ∧ Aside0 (w'.heap[gb448]? = some (.cells #[.string x449000_1, .int .u64 x449001_1, .int .u64 x449002_1] 44 (0, 0))) ∧ Aside0 (Below w.heap.size w w'))
 case atStart => exact ⟨(0), ((⟨#[]⟩ : ByteArray)), (0), (0), zv5, H', ⟨Nat.le_refl _⟩, ⟨zv3m⟩, ⟨zvg⟩⟩
 case round =>
  clear H'; try clear p2
  obtain ⟨x4_1, x449000_1, x449001_1, x449002_1, rfl, HA, HK1, BK448, HB⟩ := hrel; cases gk with
  | zero => exact absurd HA.out (by simp [paymasterref10_Parse.l0])
  | succ k1 =>
   have H := HA.out; clear HA; simp only [paymasterref10_Parse.l0] at H
   by_cases c3 : x4_1 < (a0.size : Int)
   ·rw [if_pos c3] at H; have c3b0 : decide (x4_1 < (a0.size : Int)) = true := decide_eq_true c3; clear c3
    by_cases c4 : 0 ≤ x4_1
    ·rw [if_pos c4] at H; have c4b0 : decide (0 ≤ x4_1) = true := decide_eq_true c4; clear c4
     by_cases c6 : (bt a0 x4_1) = 32
     ·rw [if_pos c6] at H; have c6b0 : ((bt a0 x4_1) == 32) = true := beq_iff_eq.mpr c6; have c6b1 : ((bt a0 x4_1) != 32) = false := bne_eq_false_iff_eq.mpr c6; clear c6; have c7b0 := eq_true (of_decide_eq_true zv6 : 0 ≤ x4_1)
      by_cases c8 : x4_1 ≤ (a0.size : Int)
      ·rw [if_pos c8] at H; have c8b0 := eq_true c8; have c8b1 : decide (x4_1 ≤ (a0.size : Int)) = true := decide_eq_true c8; clear c8; replace H := Option.bind_eq_some_iff.mp H; obtain ⟨t449, A90, H⟩ := H; replace H : (if t449 = true then (if 0 ≤ (wrap64 (x4_1 + 1)) then (if (wrap64 (x4_1 + 1)) ≤ (a0.size : Int) then ((paymasterref02_Parse.f k1 (a0.extract ((wrap64 (x4_1 + 1)) : Int).toNat a0.size)).bind fun bt450 => (if bt450.2.2 = 0 then (some (a0.extract 0 (x4_1 : Int).toNat, bt450.1, bt450.2.1, 0)) else (some ((⟨#[]⟩ : ByteArray), 0, 0, 102)))) else (none)) else (none)) else (some ((⟨#[]⟩ : ByteArray), 0, 0, 101))) = some (r1, r2, r3, r4) := H; have A9 := Aside0.mk A90; clear A90
       by_cases c10 : t449 = true
       ·subst c10; have H1 : (if 0 ≤ (wrap64 (x4_1 + 1)) then (if (wrap64 (x4_1 + 1)) ≤ (a0.size : Int) then ((paymasterref02_Parse.f k1 (a0.extract ((wrap64 (x4_1 + 1)) : Int).toNat a0.size)).bind fun bt450 => (if bt450.2.2 = 0 then (some (a0.extract 0 (x4_1 : Int).toNat, bt450.1, bt450.2.1, 0)) else (some ((⟨#[]⟩ : ByteArray), 0, 0, 102)))) else (none)) else (none)) = some (r1, r2, r3, r4) := by rw [if_pos rfl] at H; exact H
        clear H; have H := H1; clear H1; obtain ⟨ji11, hji11⟩ : ∃ j_ : Int, (wrap64 (x4_1 + 1)) = j_ := ⟨_, rfl⟩
        replace H : (if 0 ≤ (ji11) then (if (ji11) ≤ (a0.size : Int) then ((paymasterref02_Parse.f k1 (a0.extract ((ji11) : Int).toNat a0.size)).bind fun bt450 => (if bt450.2.2 = 0 then (some (a0.extract 0 (x4_1 : Int).toNat, bt450.1, bt450.2.1, 0)) else (some ((⟨#[]⟩ : ByteArray), 0, 0, 102)))) else (none)) else (none)) = some (r1, r2, r3, r4) := by first | (rw [hji11] at H; exact H) | (simp only [hji11] at H ⊢; exact H)
        (try rw [hji11] at A9)
        have hji11w : (IntKind.i64.wrap (x4_1 + 1)) = ji11 := (i64_w _).trans hji11
        by_cases c12 : 0 ≤ (ji11)
        ·rw [if_pos c12] at H; have c12b0 := eq_true c12; have c12b1 : decide (0 ≤ (ji11)) = true := decide_eq_true c12; clear c12
         by_cases c13 : (ji11) ≤ (a0.size : Int)
         ·rw [if_pos c13] at H; have c13b0 := eq_true c13; have c13b1 : decide ((ji11) ≤ (a0.size : Int)) = true := decide_eq_true c13; clear c13; replace H := Option.bind_eq_some_iff.mp H; obtain ⟨⟨t450, t451, t452⟩, A140, H⟩ := H; replace H : (if t452 = 0 then (some (a0.extract 0 (x4_1 : Int).toNat, t450, t451, 0)) else (some ((⟨#[]⟩ : ByteArray), 0, 0, 102))) = some (r1, r2, r3, r4) := H; have A14 := Aside0.mk A140; clear A140
          by_cases c15 : t452 = 0
          ·rw [if_pos c15] at H; have c15b0 : (t452 == 0) = true := beq_iff_eq.mpr c15; have c15b1 : (t452 != 0) = false := bne_eq_false_iff_eq.mpr c15; clear c15; have c16b0 := eq_true (of_decide_eq_true zv6 : 0 ≤ x4_1); have c17b0 := eq_true (of_decide_eq_true zv6 : x4_1 ≤ (a0.size : Int)); simp only [Option.some.injEq, Prod.mk.injEq] at H; obtain ⟨rfl, rfl, rfl, rfl⟩ := H; have p5 : 0 ≤ (x4_1 : Int) := of_decide_eq_true zv6; have q5 : x4_1 < (a0.size : Int) := of_decide_eq_true zv6; have hx5 := bt_at a0 x4_1; replace p5 := eq_true p5; replace q5 := eq_true q5; try go_wp2_with (first | ((with_reducible refine zRl (f := 81) rfl ?_); refine goesL_ (some 20) rfl rfl Tryd.func81 (by kernel_rfl) rfl #[.string (a0.extract 0 (x4_1 : Int).toNat)] rfl zv3 ?_; (with_reducible refine (paymasterref07_MayId.calls k1 (a0.extract 0 (x4_1 : Int).toNat) true _ A9.out).mono ?_); rintro e w' ⟨rfl, ⟨nd, rfl⟩⟩; refine ⟨_, rfl, ?_⟩; (try (rw [drewN_self wr]; generalize hq_ : World.drewN wr _ = wr; have n0_ : Aside0 (wr.heap[gb448]? = some (.cells #[.string x449000_1, .int .u64 x449001_1, .int .u64 x449002_1] 44 (0, 0))) := ⟨zv3u⟩; have n1_ : Aside0 (Below w.heap.size w wr) := ⟨(by rw [← hq_]; exact zvg)⟩; clear BK448 HB hq_; have BK448 := n0_; have HB := n1_; clear n0_ n1_))) | ((with_reducible refine zRl (f := 82) rfl ?_); refine goesL_ (some 28) rfl rfl Tryd.func82 (by kernel_rfl) rfl #[.string (a0.extract ((ji11) : Int).toNat a0.size)] rfl zv2u ?_; (with_reducible refine (paymasterref02_Parse.calls k1 (a0.extract ((ji11) : Int).toNat a0.size) t450 t451 t452 _ A14.out).mono ?_); rintro e w18 ⟨rfl, hb⟩; refine ⟨_, rfl, ?_⟩; have n0_ := Aside0.mk (zRc (g := gb448) (o := .cells #[.string x449000_1, .int .u64 x449001_1, .int .u64 x449002_1] 44 (0, 0)) (zqb BK448.out) hb); have n1_ := Aside0.mk (zRd zvg hb); clear BK448; clear HB; have BK448 := n0_; have HB := n1_; clear n0_ n1_; (try clear hb); (try clear hb2); (try clear hk); (try clear hi)) | ((with_reducible refine zRq (N := 5) rfl ?_); refine zRn ?hg (N := 5) ?hd (cs := #[.int .u64 0, .int .u64 0]) (t := 42) ?hr ?_; (case hd => rfl); (case hg => rfl); (case hr => first | (go_simp; done) | (go_simp; rfl)); intro gb453 hg w19 hbox hb; have n0_ := Aside0.mk (zRc (g := gb448) (o := .cells #[.string x449000_1, .int .u64 x449001_1, .int .u64 x449002_1] 44 (0, 0)) (zqb BK448.out) hb); have n1_ := Aside0.mk (zRd zvg hb); have n2_ := Aside0.mk (hbox); have n3_ := Aside0.mk ((zv4b : w.heap.size ≤ gb453)); have n4_ := Aside0.mk ((zv4b : w.heap.size ≤ gb453)); have n5_ := Aside0.mk ((zv30 : gb448 ≠ gb453)); have n6_ := Aside0.mk ((zv31 : gb453 ≠ gb448)); clear BK448; clear HB; have BK448 := n0_; have HB := n1_; have BK453 := n2_; have GW453 := n3_; have GE453 := n4_; have NB448_453 := n5_; have NB453_448 := n6_; clear n0_ n1_ n2_ n3_ n4_ n5_ n6_; clear hb hbox hg; have hnb20 := NB453_448.out; have hnc20 := NB448_453.out; have hcz21_0 : w19.cell? ⟨gb453, 0, none⟩ = some (.int .u64 0) := (zRa BK453.out 0).trans rfl; have hcz21_1 : w19.cell? ⟨gb453, 1, none⟩ = some (.int .u64 0) := (zRa BK453.out 1).trans rfl; have hfz21_0 := zRb BK453.out 0; have hfz21_1 := zRb BK453.out 1))
           have n0_ : Aside0 (((w19.setCell ⟨gb453, 0, none⟩ (.int .u64 t450)).setCell ⟨gb453, 1, none⟩ (.int .u64 t451)).heap[gb448]? = some (.cells #[.string x449000_1, .int .u64 x449001_1, .int .u64 x449002_1] 44 (0, 0))) := ⟨(by refine zqb ?_; refine zRr ?_ NB448_453.out _; refine zqb ?_; refine zRr ?_ NB448_453.out _; refine zqb ?_; exact BK448.out)⟩
           have n1_ : Aside0 (((w19.setCell ⟨gb453, 0, none⟩ (.int .u64 t450)).setCell ⟨gb453, 1, none⟩ (.int .u64 t451)).heap[gb453]? = some (.cells #[.int .u64 t450, .int .u64 t451] 42 (0, 0))) := ⟨(by refine zqb ?_; refine zRm (cs := #[.int .u64 t450, .int .u64 0]) ?_ 1 _ rfl; refine zqb ?_; refine zRm (cs := #[.int .u64 0, .int .u64 0]) ?_ 0 _ rfl; refine zqb ?_; exact BK453.out)⟩
           have n2_ : Aside0 (Below w.heap.size w ((w19.setCell ⟨gb453, 0, none⟩ (.int .u64 t450)).setCell ⟨gb453, 1, none⟩ (.int .u64 t451))) := ⟨zv1y⟩
           (try clear BK448)
           (try clear BK453)
           (try clear HB)
           generalize ((w19.setCell ⟨gb453, 0, none⟩ (.int .u64 t450)).setCell ⟨gb453, 1, none⟩ (.int .u64 t451)) = w22 at n0_ n1_ n2_ ⊢; have BK448 := n0_; have BK453 := n1_; have HB := n2_; clear n0_ n1_ n2_; have n0_ := Aside0.mk (zRk BK448.out); have n1_ := Aside0.mk (zRk BK453.out); have n2_ := Aside0.mk (zRj HB.out); clear BK448; clear BK453; clear HB; have BK448 := n0_; have BK453 := n1_; have HB := n2_; clear n0_ n1_ n2_; refine start_ (n := 7) (S := fun w' => w'.cell? ⟨gb453, 0, none⟩ = some (.int .u64 t450) ∧ w'.cell? ⟨gb453, 1, none⟩ = some (.int .u64 t451)) (ds := []) #[false, false, false, false, false, false, false] (by kernel_rfl) rfl rfl ⟨(zRa BK453.out 0).trans rfl, (zRa BK453.out 1).trans rfl⟩ (fun hHeld => ?_); generalize w22.drew = w23 at BK448 BK453 HB hHeld ⊢; refine pure_ (i := 0) (N := some 34) (v := ?_) (a' := ?_) #[true, false, false, false, false, false, false] rfl rfl (by kernel_rfl) (fun _ _ _ h => h) (Or.inl ⟨zvv, ?_⟩) ?_ ?_; rotate_left
           ·intro w'; go_simp; with_reducible rfl
           rotate_left
           ·simp only [Act.put, zsa, zsb, zsc, i64_w, i32_w]; rfl
           refine pure_ (i := 1) (N := some 35) (v := ?_) (a' := ?_) #[true, true, false, false, false, false, false] rfl rfl (by kernel_rfl) (fun _ _ _ h => h) (Or.inl ⟨zvv, ?_⟩) ?_ ?_; rotate_left
           ·intro w'; go_simp; with_reducible rfl
           rotate_left
           ·simp only [Act.put, zsa, zsb, zsc, i64_w, i32_w]; rfl
           refine pure_ (i := 2) (N := some 36) (v := ?_) (a' := ?_) #[true, true, true, false, false, false, false] rfl rfl (by kernel_rfl) (fun _ _ _ h => h) (Or.inl ⟨zvv, ?_⟩) ?_ ?_; rotate_left
           ·intro w'; go_simp; with_reducible rfl
           rotate_left
           ·simp only [Act.put, zsa, zsb, zsc, i64_w, i32_w]; rfl
           refine take_ (i := 3) (N := some 37) (v := ?_) (a' := ?_) #[true, true, true, true, false, false, false] rfl rfl (by kernel_rfl) (fun _ _ _ h => h) (Or.inl ⟨zvv, ?_⟩) hHeld ?_ ?_; rotate_left
           ·rintro w' ⟨s0, s1⟩; go_simp; with_reducible rfl
           rotate_left
           ·simp only [Act.put, zsa, zsb, zsc, i64_w, i32_w]; rfl
           refine pure_ (i := 4) (N := some 38) (v := ?_) (a' := ?_) #[true, true, true, true, true, false, false] rfl rfl (by kernel_rfl) (fun _ _ _ h => h) (Or.inl ⟨zvv, ?_⟩) ?_ ?_; rotate_left
           ·intro w'; go_simp; with_reducible rfl
           rotate_left
           ·simp only [Act.put, zsa, zsb, zsc, i64_w, i32_w]; rfl
           refine one_ (i := 5) (N := none) #[true, true, true, true, true, true, false] rfl rfl (by kernel_rfl) zvz (fun K hK => ?_); have hs24 : w23.cell? ⟨gb448, 0, none⟩ = some (.string x449000_1) := (zRa BK448.out 0).trans rfl; have hfs24 := zRb BK448.out 0; have hns24_1 := NB453_448.out; have hms24_1 := NB448_453.out; have hs25 : w23.cell? ⟨gb448, 1, none⟩ = some (.int .u64 x449001_1) := (zRa BK448.out 1).trans rfl; have hfs25 := zRb BK448.out 1; have hns25_1 := NB453_448.out; have hms25_1 := NB448_453.out; have hs26 : w23.cell? ⟨gb448, 2, none⟩ = some (.int .u64 x449002_1) := (zRa BK448.out 2).trans rfl; have hfs26 := zRb BK448.out 2; have hns26_1 := NB453_448.out; have hms26_1 := NB448_453.out; refine skip_ (w1 := ?_) zvv rfl ?_ ?_; rotate_left
           ·go_simp; rfl
           refine hK.out _ _ ⟨((cell_far (p := ⟨gb448, _, none⟩) NB453_448.out _).trans (((cell_far (p := ⟨gb448, _, none⟩) NB453_448.out _).trans (((cell_far (p := ⟨gb448, _, none⟩) NB453_448.out _).trans (hHeld.1)))))), ((cell_far (p := ⟨gb448, _, none⟩) NB453_448.out _).trans (((cell_far (p := ⟨gb448, _, none⟩) NB453_448.out _).trans (((cell_far (p := ⟨gb448, _, none⟩) NB453_448.out _).trans (hHeld.2))))))⟩ (fun hHeld => ?_); clear hK K; refine pure_ (i := 6) (N := some 3) (v := ?_) (a' := ?_) #[true, true, true, true, true, true, true] rfl rfl (by kernel_rfl) (fun _ _ _ h => h) (Or.inl ⟨zvv, ?_⟩) ?_ ?_; rotate_left
           ·intro w'; go_simp; with_reducible rfl
           rotate_left
           ·simp only [Act.put, zsa, zsb, zsc, i64_w, i32_w]; rfl
           refine done_ (by kernel_rfl) ?_; try go_wp2
           refine bodyPost_ret (zRu rfl _ _ gb448 44 #[.string (a0.extract 0 (x4_1 : Int).toNat), .int .u64 t450, .int .u64 t451] (0, 0) _ rfl (by refine zqb ?_; refine zRm (cs := #[.string (a0.extract 0 (x4_1 : Int).toNat), .int .u64 t450, .int .u64 x449002_1]) ?_ 2 _ rfl; refine zqb ?_; refine zRm (cs := #[.string (a0.extract 0 (x4_1 : Int).toNat), .int .u64 x449001_1, .int .u64 x449002_1]) ?_ 1 _ rfl; refine zqb ?_; refine zRm (cs := #[.string x449000_1, .int .u64 x449001_1, .int .u64 x449002_1]) ?_ 0 _ rfl; refine zqb ?_; exact BK448.out) Tryd.underlying44 rfl (by kernel_rfl)) rfl ?_; exact ⟨zv2t, zv1y⟩
          ·rw [if_neg c15] at H; have c15b0 : (t452 == 0) = false := beq_eq_false_iff_ne.mpr c15; have c15b1 : (t452 != 0) = true := bne_iff_ne.mpr c15; simp only [Option.some.injEq, Prod.mk.injEq] at H; obtain ⟨rfl, rfl, rfl, rfl⟩ := H; have p5 : 0 ≤ (x4_1 : Int) := of_decide_eq_true zv6; have q5 : x4_1 < (a0.size : Int) := of_decide_eq_true zv6; have hx5 := bt_at a0 x4_1; replace p5 := eq_true p5; replace q5 := eq_true q5
           go_wp2_with (first | ((with_reducible refine zRl (f := 81) rfl ?_); refine goesL_ (some 20) rfl rfl Tryd.func81 (by kernel_rfl) rfl #[.string (a0.extract 0 (x4_1 : Int).toNat)] rfl zv3 ?_; (with_reducible refine (paymasterref07_MayId.calls k1 (a0.extract 0 (x4_1 : Int).toNat) true _ A9.out).mono ?_); rintro e w' ⟨rfl, ⟨nd, rfl⟩⟩; refine ⟨_, rfl, ?_⟩; (try (rw [drewN_self wr]; generalize hq_ : World.drewN wr _ = wr; have n0_ : Aside0 (wr.heap[gb448]? = some (.cells #[.string x449000_1, .int .u64 x449001_1, .int .u64 x449002_1] 44 (0, 0))) := ⟨zv3u⟩; have n1_ : Aside0 (Below w.heap.size w wr) := ⟨(by rw [← hq_]; exact zvg)⟩; clear BK448 HB hq_; have BK448 := n0_; have HB := n1_; clear n0_ n1_))) | ((with_reducible refine zRl (f := 82) rfl ?_); refine goesL_ (some 28) rfl rfl Tryd.func82 (by kernel_rfl) rfl #[.string (a0.extract ((ji11) : Int).toNat a0.size)] rfl zv2u ?_; (with_reducible refine (paymasterref02_Parse.calls k1 (a0.extract ((ji11) : Int).toNat a0.size) t450 t451 t452 _ A14.out).mono ?_); rintro e w27 ⟨rfl, hb⟩; refine ⟨_, rfl, ?_⟩; have n0_ := Aside0.mk (zRc (g := gb448) (o := .cells #[.string x449000_1, .int .u64 x449001_1, .int .u64 x449002_1] 44 (0, 0)) (zqb BK448.out) hb); have n1_ := Aside0.mk (zRd zvg hb); clear BK448; clear HB; have BK448 := n0_; have HB := n1_; clear n0_ n1_; (try clear hb); (try clear hb2); (try clear hk); (try clear hi)) | ((with_reducible refine zRq (N := 5) rfl ?_); refine zRn ?hg (N := 5) ?hd (cs := #[.int .u64 0, .int .u64 0]) (t := 42) ?hr ?_; (case hd => rfl); (case hg => rfl); (case hr => first | (go_simp; done) | (go_simp; rfl)); intro gb453 hg w28 hbox hb; have n0_ := Aside0.mk (zRc (g := gb448) (o := .cells #[.string x449000_1, .int .u64 x449001_1, .int .u64 x449002_1] 44 (0, 0)) (zqb BK448.out) hb); have n1_ := Aside0.mk (zRd zvg hb); have n2_ := Aside0.mk (hbox); have n3_ := Aside0.mk ((zv4b : w.heap.size ≤ gb453)); have n4_ := Aside0.mk ((zv4b : w.heap.size ≤ gb453)); have n5_ := Aside0.mk ((zv30 : gb448 ≠ gb453)); have n6_ := Aside0.mk ((zv31 : gb453 ≠ gb448)); clear BK448; clear HB; have BK448 := n0_; have HB := n1_; have BK453 := n2_; have GW453 := n3_; have GE453 := n4_; have NB448_453 := n5_; have NB453_448 := n6_; clear n0_ n1_ n2_ n3_ n4_ n5_ n6_; clear hb hbox hg; have hnb29 := NB453_448.out; have hnc29 := NB448_453.out; have hcz30_0 : w28.cell? ⟨gb453, 0, none⟩ = some (.int .u64 0) := (zRa BK453.out 0).trans rfl; have hcz30_1 : w28.cell? ⟨gb453, 1, none⟩ = some (.int .u64 0) := (zRa BK453.out 1).trans rfl; have hfz30_0 := zRb BK453.out 0; have hfz30_1 := zRb BK453.out 1; have hcz31_0 : w28.cell? ⟨gb448, 0, none⟩ = some (.string x449000_1) := (zRa BK448.out 0).trans rfl; have hcz31_1 : w28.cell? ⟨gb448, 1, none⟩ = some (.int .u64 x449001_1) := (zRa BK448.out 1).trans rfl; have hcz31_2 : w28.cell? ⟨gb448, 2, none⟩ = some (.int .u64 x449002_1) := (zRa BK448.out 2).trans rfl; have hfz31_0 := zRb BK448.out 0; have hfz31_1 := zRb BK448.out 1; have hfz31_2 := zRb BK448.out 2))
           refine bodyPost_ret (zRu rfl _ _ gb448 44 #[.string (⟨#[]⟩ : ByteArray), .int .u64 0, .int .u64 0] (0, 0) _ rfl (by refine zqb ?_; refine zRm (cs := #[.string (⟨#[]⟩ : ByteArray), .int .u64 0, .int .u64 x449002_1]) ?_ 2 _ rfl; refine zqb ?_; refine zRm (cs := #[.string (⟨#[]⟩ : ByteArray), .int .u64 x449001_1, .int .u64 x449002_1]) ?_ 1 _ rfl; refine zqb ?_; refine zRm (cs := #[.string x449000_1, .int .u64 x449001_1, .int .u64 x449002_1]) ?_ 0 _ rfl; refine zqb ?_; refine zRr ?_ NB448_453.out _; refine zqb ?_; refine zRr ?_ NB448_453.out _; refine zqb ?_; exact BK448.out) Tryd.underlying44 rfl (by kernel_rfl)) rfl ?_; exact ⟨zv2t, zv1y⟩
         ·rw [if_neg c13] at H; exact absurd H zv10
        ·rw [if_neg c12] at H; exact absurd H zv10
       ·replace c10 := Bool.eq_false_iff.mpr c10; subst c10; have H1 : (some ((⟨#[]⟩ : ByteArray), 0, 0, 101)) = some (r1, r2, r3, r4) := by rw [if_neg (show ¬ (false = true) by decide)] at H; exact H
        clear H; have H := H1; clear H1; simp only [Option.some.injEq, Prod.mk.injEq] at H; obtain ⟨rfl, rfl, rfl, rfl⟩ := H; have p5 : 0 ≤ (x4_1 : Int) := of_decide_eq_true zv6; have q5 : x4_1 < (a0.size : Int) := of_decide_eq_true zv6; have hx5 := bt_at a0 x4_1; replace p5 := eq_true p5; replace q5 := eq_true q5
        go_wp2_with (first | ((with_reducible refine zRl (f := 81) rfl ?_); refine goesL_ (some 20) rfl rfl Tryd.func81 (by kernel_rfl) rfl #[.string (a0.extract 0 (x4_1 : Int).toNat)] rfl zv3 ?_; (with_reducible refine (paymasterref07_MayId.calls k1 (a0.extract 0 (x4_1 : Int).toNat) false _ A9.out).mono ?_); rintro e w' ⟨rfl, ⟨nd, rfl⟩⟩; refine ⟨_, rfl, ?_⟩; (try (rw [drewN_self wr]; generalize hq_ : World.drewN wr _ = wr; have n0_ : Aside0 (wr.heap[gb448]? = some (.cells #[.string x449000_1, .int .u64 x449001_1, .int .u64 x449002_1] 44 (0, 0))) := ⟨zv3u⟩; have n1_ : Aside0 (Below w.heap.size w wr) := ⟨(by rw [← hq_]; exact zvg)⟩; clear BK448 HB hq_; have BK448 := n0_; have HB := n1_; clear n0_ n1_)); have hcz32_0 : wr.cell? ⟨gb448, 0, none⟩ = some (.string x449000_1) := (zRa BK448.out 0).trans rfl; have hcz32_1 : wr.cell? ⟨gb448, 1, none⟩ = some (.int .u64 x449001_1) := (zRa BK448.out 1).trans rfl; have hcz32_2 : wr.cell? ⟨gb448, 2, none⟩ = some (.int .u64 x449002_1) := (zRa BK448.out 2).trans rfl; have hfz32_0 := zRb BK448.out 0; have hfz32_1 := zRb BK448.out 1; have hfz32_2 := zRb BK448.out 2))
        refine bodyPost_ret (zRu rfl _ _ gb448 44 #[.string (⟨#[]⟩ : ByteArray), .int .u64 0, .int .u64 0] (0, 0) _ rfl zv1z Tryd.underlying44 rfl (by kernel_rfl)) rfl ?_; exact ⟨zv8, zvg⟩
      ·rw [if_neg c8] at H; exact absurd H zv10
     ·rw [if_neg c6] at H; have c6b0 : ((bt a0 x4_1) == 32) = false := beq_eq_false_iff_ne.mpr c6; have c6b1 : ((bt a0 x4_1) != 32) = true := bne_iff_ne.mpr c6; have H' := Aside0.mk H; clear H; have p5 : 0 ≤ (x4_1 : Int) := of_decide_eq_true zv6; have q5 : x4_1 < (a0.size : Int) := of_decide_eq_true zv6; have hx5 := bt_at a0 x4_1; replace p5 := eq_true p5; replace q5 := eq_true q5; go_wp2; go_roundg k1
      case measure => have := HK1.out; omega
      case rel => exact ⟨(wrap64 (x4_1 + 1)), (x449000_1), (x449001_1), (x449002_1), zv5, H', ⟨zv2g⟩, ⟨zv3m⟩, ⟨zvg⟩⟩
    ·rw [if_neg c4] at H; exact absurd H zv10
   ·rw [if_neg c3] at H; have c3b0 : decide (x4_1 < (a0.size : Int)) = false := decide_eq_false c3; clear c3; simp only [Option.some.injEq, Prod.mk.injEq] at H; obtain ⟨rfl, rfl, rfl, rfl⟩ := H; have hcz33_0 : wr.cell? ⟨gb448, 0, none⟩ = some (.string x449000_1) := (zRa BK448.out 0).trans rfl; have hcz33_1 : wr.cell? ⟨gb448, 1, none⟩ = some (.int .u64 x449001_1) := (zRa BK448.out 1).trans rfl; have hcz33_2 : wr.cell? ⟨gb448, 2, none⟩ = some (.int .u64 x449002_1) := (zRa BK448.out 2).trans rfl; have hfz33_0 := zRb BK448.out 0; have hfz33_1 := zRb BK448.out 1; have hfz33_2 := zRb BK448.out 2; go_wp2; refine bodyPost_ret (zRu rfl _ _ gb448 44 #[.string (⟨#[]⟩ : ByteArray), .int .u64 0, .int .u64 0] (0, 0) _ rfl zv1z Tryd.underlying44 rfl (by kernel_rfl)) rfl ?_; exact ⟨zv8, zvg⟩
def paymasterref10_One.f (k : Nat) (a0 : ByteArray) : Option (ByteArray × Int × Int × Bool × Int) := (paymasterref09_Wrong.f k a0).bind fun t455 => (if t455 = 0 then (if (a0.size : Int) = 0 then (some ((⟨#[]⟩ : ByteArray), 0, 0, false, 0)) else (if 0 < (a0.size : Int) then (if (bt a0 0) = 35 then (some ((⟨#[]⟩ : ByteArray), 0, 0, false, 0)) else ((paymasterref10_Parse.f k a0).bind fun bt456 => (some (bt456.1, bt456.2.1, bt456.2.2.1, (bt456.2.2.2 == 0), bt456.2.2.2)))) else (none))) else (some ((⟨#[]⟩ : ByteArray), 0, 0, false, t455)))
set_option maxHeartbeats 8000000 in
set_option maxRecDepth 100000 in
theorem paymasterref10_One.calls (k : Nat) (a0 : ByteArray) (r1 : ByteArray) (r2 : Int) (r3 : Int) (r4 : Bool) (r5 : Int) (w : World) (h : paymasterref10_One.f k a0 = some (r1, r2, r3, r4, r5)) :
  Calls Tryd.prog 83 #[.string a0] w fun e w' => e = .returned (.tuple #[.agg #[.string r1, .int .u64 r2, .int .u64 r3], .bool r4, .int .i64 r5]) ∧ Below w.heap.size w w' := by
 have hu44 := Tryd.underlying44; have HB := Aside0.mk (Below.refl w.heap.size w); have H : ((paymasterref09_Wrong.f k a0).bind fun t455 => (if t455 = 0 then (if (a0.size : Int) = 0 then (some ((⟨#[]⟩ : ByteArray), 0, 0, false, 0)) else (if 0 < (a0.size : Int) then (if (bt a0 0) = 35 then (some ((⟨#[]⟩ : ByteArray), 0, 0, false, 0)) else ((paymasterref10_Parse.f k a0).bind fun bt456 => (some (bt456.1, bt456.2.1, bt456.2.2.1, (bt456.2.2.2 == 0), bt456.2.2.2)))) else (none))) else (some ((⟨#[]⟩ : ByteArray), 0, 0, false, t455)))) = some (r1, r2, r3, r4, r5) := h; clear h; replace H := Option.bind_eq_some_iff.mp H; obtain ⟨t455, A20, H⟩ := H; replace H : (if t455 = 0 then (if (a0.size : Int) = 0 then (some ((⟨#[]⟩ : ByteArray), 0, 0, false, 0)) else (if 0 < (a0.size : Int) then (if (bt a0 0) = 35 then (some ((⟨#[]⟩ : ByteArray), 0, 0, false, 0)) else ((paymasterref10_Parse.f k a0).bind fun bt456 => (some (bt456.1, bt456.2.1, bt456.2.2.1, (bt456.2.2.2 == 0), bt456.2.2.2)))) else (none))) else (some ((⟨#[]⟩ : ByteArray), 0, 0, false, t455))) = some (r1, r2, r3, r4, r5) := H; have A2 := Aside0.mk A20; clear A20
 by_cases c3 : t455 = 0
 ·rw [if_pos c3] at H; have c3b0 : (t455 == 0) = true := beq_iff_eq.mpr c3; have c3b1 : (t455 != 0) = false := bne_eq_false_iff_eq.mpr c3; clear c3
  by_cases c4 : (a0.size : Int) = 0
  ·rw [if_pos c4] at H; have c4b0 : ((a0.size : Int) == 0) = true := beq_iff_eq.mpr c4; have c4b1 : ((a0.size : Int) != 0) = false := bne_eq_false_iff_eq.mpr c4; clear c4; simp only [Option.some.injEq, Prod.mk.injEq] at H; obtain ⟨rfl, rfl, rfl, rfl, rfl⟩ := H; go_enter Tryd.func83, Tryd.ntmps83
   go_wp2_with (first | ((with_reducible refine zRq (N := 2) rfl ?_); refine zRn ?hg (N := 2) ?hd (cs := #[.string (⟨#[]⟩ : ByteArray), .int .u64 0, .int .u64 0]) (t := 44) ?hr ?_; (case hd => rfl); (case hg => rfl); (case hr => first | (go_simp; done) | (go_simp; rfl)); intro gb454 hg w5 hbox hb; have n0_ := Aside0.mk (zRd zv0 hb); have n1_ := Aside0.mk (hbox); have n2_ := Aside0.mk ((zv3w : w.heap.size ≤ gb454)); have n3_ := Aside0.mk ((zv3w : w.heap.size ≤ gb454)); clear HB; have HB := n0_; have BK454 := n1_; have GW454 := n2_; have GE454 := n3_; clear n0_ n1_ n2_ n3_; clear hb hbox hg) | ((with_reducible refine zRl (f := 36) rfl ?_); refine goesL_ (some 9) rfl rfl Tryd.func36 (by kernel_rfl) rfl #[.string a0] rfl zv3 ?_; (with_reducible refine (paymasterref09_Wrong.calls k a0 t455 _ A2.out).mono ?_); rintro e w6 ⟨rfl, hb⟩; refine ⟨_, rfl, ?_⟩; have n0_ := Aside0.mk (zRc (g := gb454) (o := .cells #[.string (⟨#[]⟩ : ByteArray), .int .u64 0, .int .u64 0] 44 (0, 0)) (zqb BK454.out) hb); have n1_ := Aside0.mk (zRd zvl hb); clear BK454; clear HB; have BK454 := n0_; have HB := n1_; clear n0_ n1_; (try clear hb); (try clear hb2); (try clear hk); (try clear hi); have hcz7_0 : w6.cell? ⟨gb454, 0, none⟩ = some (.string (⟨#[]⟩ : ByteArray)) := (zRa BK454.out 0).trans rfl; have hcz7_1 : w6.cell? ⟨gb454, 1, none⟩ = some (.int .u64 0) := (zRa BK454.out 1).trans rfl; have hcz7_2 : w6.cell? ⟨gb454, 2, none⟩ = some (.int .u64 0) := (zRa BK454.out 2).trans rfl; have hfz7_0 := zRb BK454.out 0; have hfz7_1 := zRb BK454.out 1; have hfz7_2 := zRb BK454.out 2))
   refine bodyPost_ret (results_ctt rfl _ _ gb454 44 #[.string (⟨#[]⟩ : ByteArray), .int .u64 0, .int .u64 0] (0, 0) _ rfl zv1a Tryd.underlying44 rfl (by kernel_rfl)) rfl ?_; exact ⟨zv8, zvl⟩
  ·rw [if_neg c4] at H; have c4b0 : ((a0.size : Int) == 0) = false := beq_eq_false_iff_ne.mpr c4; have c4b1 : ((a0.size : Int) != 0) = true := bne_iff_ne.mpr c4
   by_cases c8 : 0 < (a0.size : Int)
   ·rw [if_pos c8] at H; have c8b0 : decide (0 < (a0.size : Int)) = true := decide_eq_true c8; have c8b1 : decide (0 < a0.size) = true := decide_eq_true zv1; clear c8
    by_cases c10 : (bt a0 0) = 35
    ·rw [if_pos c10] at H; have c10b0 : ((bt a0 0) == 35) = true := beq_iff_eq.mpr c10; have c10b1 : ((bt a0 0) != 35) = false := bne_eq_false_iff_eq.mpr c10; clear c10; simp only [Option.some.injEq, Prod.mk.injEq] at H; obtain ⟨rfl, rfl, rfl, rfl, rfl⟩ := H; go_enter Tryd.func83, Tryd.ntmps83
     go_wp2_with (first | ((with_reducible refine zRq (N := 2) rfl ?_); refine zRn ?hg (N := 2) ?hd (cs := #[.string (⟨#[]⟩ : ByteArray), .int .u64 0, .int .u64 0]) (t := 44) ?hr ?_; (case hd => rfl); (case hg => rfl); (case hr => first | (go_simp; done) | (go_simp; rfl)); intro gb454 hg w11 hbox hb; have n0_ := Aside0.mk (zRd zv0 hb); have n1_ := Aside0.mk (hbox); have n2_ := Aside0.mk ((zv3w : w.heap.size ≤ gb454)); have n3_ := Aside0.mk ((zv3w : w.heap.size ≤ gb454)); clear HB; have HB := n0_; have BK454 := n1_; have GW454 := n2_; have GE454 := n3_; clear n0_ n1_ n2_ n3_; clear hb hbox hg) | ((with_reducible refine zRl (f := 36) rfl ?_); refine goesL_ (some 9) rfl rfl Tryd.func36 (by kernel_rfl) rfl #[.string a0] rfl zv3 ?_; (with_reducible refine (paymasterref09_Wrong.calls k a0 t455 _ A2.out).mono ?_); rintro e w12 ⟨rfl, hb⟩; refine ⟨_, rfl, ?_⟩; have n0_ := Aside0.mk (zRc (g := gb454) (o := .cells #[.string (⟨#[]⟩ : ByteArray), .int .u64 0, .int .u64 0] 44 (0, 0)) (zqb BK454.out) hb); have n1_ := Aside0.mk (zRd zvl hb); clear BK454; clear HB; have BK454 := n0_; have HB := n1_; clear n0_ n1_; (try clear hb); (try clear hb2); (try clear hk); (try clear hi); have p9 : 0 ≤ (0 : Int) := zv1; have q9 : 0 < a0.size := (by have : (0 : Int) < (a0.size : Int) := of_decide_eq_true zv6; omega); have hx9 : ∀ h : 0 < a0.size, ((a0[0]'h).toNat : Int) = bt a0 0 := bt_at a0 0; clear p9; have qi9 : (0 < (a0.size : Int)) = True := eq_true (of_decide_eq_true zv6); replace q9 := eq_true q9; have hcz13_0 : w12.cell? ⟨gb454, 0, none⟩ = some (.string (⟨#[]⟩ : ByteArray)) := (zRa BK454.out 0).trans rfl; have hcz13_1 : w12.cell? ⟨gb454, 1, none⟩ = some (.int .u64 0) := (zRa BK454.out 1).trans rfl; have hcz13_2 : w12.cell? ⟨gb454, 2, none⟩ = some (.int .u64 0) := (zRa BK454.out 2).trans rfl; have hfz13_0 := zRb BK454.out 0; have hfz13_1 := zRb BK454.out 1; have hfz13_2 := zRb BK454.out 2))
     refine bodyPost_ret (results_ctt rfl _ _ gb454 44 #[.string (⟨#[]⟩ : ByteArray), .int .u64 0, .int .u64 0] (0, 0) _ rfl zv1a Tryd.underlying44 rfl (by kernel_rfl)) rfl ?_; exact ⟨zv8, zvl⟩
    ·rw [if_neg c10] at H; have c10b0 : ((bt a0 0) == 35) = false := beq_eq_false_iff_ne.mpr c10; have c10b1 : ((bt a0 0) != 35) = true := bne_iff_ne.mpr c10; replace H := Option.bind_eq_some_iff.mp H; obtain ⟨⟨t456, t457, t458, t459⟩, A140, H⟩ := H; replace H : (some (t456, t457, t458, (t459 == 0), t459)) = some (r1, r2, r3, r4, r5) := H; have A14 := Aside0.mk A140; clear A140; simp only [Option.some.injEq, Prod.mk.injEq] at H; obtain ⟨rfl, rfl, rfl, rfl, rfl⟩ := H; go_enter Tryd.func83, Tryd.ntmps83
     go_wp2_with (first | ((with_reducible refine zRq (N := 2) rfl ?_); refine zRn ?hg (N := 2) ?hd (cs := #[.string (⟨#[]⟩ : ByteArray), .int .u64 0, .int .u64 0]) (t := 44) ?hr ?_; (case hd => rfl); (case hg => rfl); (case hr => first | (go_simp; done) | (go_simp; rfl)); intro gb454 hg w15 hbox hb; have n0_ := Aside0.mk (zRd zv0 hb); have n1_ := Aside0.mk (hbox); have n2_ := Aside0.mk ((zv3w : w.heap.size ≤ gb454)); have n3_ := Aside0.mk ((zv3w : w.heap.size ≤ gb454)); clear HB; have HB := n0_; have BK454 := n1_; have GW454 := n2_; have GE454 := n3_; clear n0_ n1_ n2_ n3_; clear hb hbox hg) | ((with_reducible refine zRl (f := 36) rfl ?_); refine goesL_ (some 9) rfl rfl Tryd.func36 (by kernel_rfl) rfl #[.string a0] rfl zv3 ?_; (with_reducible refine (paymasterref09_Wrong.calls k a0 t455 _ A2.out).mono ?_); rintro e w16 ⟨rfl, hb⟩; refine ⟨_, rfl, ?_⟩; have n0_ := Aside0.mk (zRc (g := gb454) (o := .cells #[.string (⟨#[]⟩ : ByteArray), .int .u64 0, .int .u64 0] 44 (0, 0)) (zqb BK454.out) hb); have n1_ := Aside0.mk (zRd zvl hb); clear BK454; clear HB; have BK454 := n0_; have HB := n1_; clear n0_ n1_; (try clear hb); (try clear hb2); (try clear hk); (try clear hi); have p9 : 0 ≤ (0 : Int) := zv1; have q9 : 0 < a0.size := (by have : (0 : Int) < (a0.size : Int) := of_decide_eq_true zv6; omega); have hx9 : ∀ h : 0 < a0.size, ((a0[0]'h).toNat : Int) = bt a0 0 := bt_at a0 0; clear p9; have qi9 : (0 < (a0.size : Int)) = True := eq_true (of_decide_eq_true zv6); replace q9 := eq_true q9) | ((with_reducible refine zRl (f := 44) rfl ?_); refine goesL_ (some 25) rfl rfl Tryd.func44 (by kernel_rfl) rfl #[.string a0] rfl zv3 ?_; (with_reducible refine (paymasterref10_Parse.calls k a0 t456 t457 t458 t459 _ A14.out).mono ?_); rintro e w17 ⟨rfl, hb⟩; refine ⟨_, rfl, ?_⟩; have n0_ := Aside0.mk (zRc (g := gb454) (o := .cells #[.string (⟨#[]⟩ : ByteArray), .int .u64 0, .int .u64 0] 44 (0, 0)) (zqb BK454.out) hb); have n1_ := Aside0.mk (zRd zvl hb); clear BK454; clear HB; have BK454 := n0_; have HB := n1_; clear n0_ n1_; (try clear hb); (try clear hb2); (try clear hk); (try clear hi)) | ((with_reducible refine zRq (N := 6) rfl ?_); refine zRn ?hg (N := 6) ?hd (cs := #[.string (⟨#[]⟩ : ByteArray), .int .u64 0, .int .u64 0]) (t := 44) ?hr ?_; (case hd => rfl); (case hg => rfl); (case hr => first | (go_simp; done) | (go_simp; rfl)); intro gb460 hg w18 hbox hb; have n0_ := Aside0.mk (zRc (g := gb454) (o := .cells #[.string (⟨#[]⟩ : ByteArray), .int .u64 0, .int .u64 0] 44 (0, 0)) (zqb BK454.out) hb); have n1_ := Aside0.mk (zRd zvl hb); have n2_ := Aside0.mk (hbox); have n3_ := Aside0.mk ((by rw [hg]; exact (zRg zvl) : w.heap.size ≤ gb460)); have n4_ := Aside0.mk ((by rw [hg]; exact (zRg zvl) : w.heap.size ≤ gb460)); have n5_ := Aside0.mk ((by rw [hg]; exact Nat.ne_of_lt (blk_lt (g := gb454) (o := .cells #[.string (⟨#[]⟩ : ByteArray), .int .u64 0, .int .u64 0] 44 (0, 0)) (zqb BK454.out)) : gb454 ≠ gb460)); have n6_ := Aside0.mk ((by rw [hg]; exact Nat.ne_of_gt (blk_lt (g := gb454) (o := .cells #[.string (⟨#[]⟩ : ByteArray), .int .u64 0, .int .u64 0] 44 (0, 0)) (zqb BK454.out)) : gb460 ≠ gb454)); clear BK454; clear HB; have BK454 := n0_; have HB := n1_; have BK460 := n2_; have GW460 := n3_; have GE460 := n4_; have NB454_460 := n5_; have NB460_454 := n6_; clear n0_ n1_ n2_ n3_ n4_ n5_ n6_; clear hb hbox hg; have hnb19 := NB460_454.out; have hnc19 := NB454_460.out; have hcz20_0 : w18.cell? ⟨gb460, 0, none⟩ = some (.string (⟨#[]⟩ : ByteArray)) := (zRa BK460.out 0).trans rfl; have hcz20_1 : w18.cell? ⟨gb460, 1, none⟩ = some (.int .u64 0) := (zRa BK460.out 1).trans rfl; have hcz20_2 : w18.cell? ⟨gb460, 2, none⟩ = some (.int .u64 0) := (zRa BK460.out 2).trans rfl; have hfz20_0 := zRb BK460.out 0; have hfz20_1 := zRb BK460.out 1; have hfz20_2 := zRb BK460.out 2; have hcz21_0 : w18.cell? ⟨gb454, 0, none⟩ = some (.string (⟨#[]⟩ : ByteArray)) := (zRa BK454.out 0).trans rfl; have hcz21_1 : w18.cell? ⟨gb454, 1, none⟩ = some (.int .u64 0) := (zRa BK454.out 1).trans rfl; have hcz21_2 : w18.cell? ⟨gb454, 2, none⟩ = some (.int .u64 0) := (zRa BK454.out 2).trans rfl; have hfz21_0 := zRb BK454.out 0; have hfz21_1 := zRb BK454.out 1; have hfz21_2 := zRb BK454.out 2))
     refine bodyPost_ret (results_ctt rfl _ _ gb454 44 #[.string t456, .int .u64 t457, .int .u64 t458] (0, 0) _ rfl (by refine zqb ?_; refine zRm (cs := #[.string t456, .int .u64 t457, .int .u64 0]) ?_ 2 _ rfl; refine zqb ?_; refine zRm (cs := #[.string t456, .int .u64 0, .int .u64 0]) ?_ 1 _ rfl; refine zqb ?_; refine zRm (cs := #[.string (⟨#[]⟩ : ByteArray), .int .u64 0, .int .u64 0]) ?_ 0 _ rfl; refine zqb ?_; refine zRr ?_ NB454_460.out _; refine zqb ?_; refine zRr ?_ NB454_460.out _; refine zqb ?_; refine zRr ?_ NB454_460.out _; refine zqb ?_; exact BK454.out) Tryd.underlying44 rfl (by kernel_rfl)) rfl ?_; exact ⟨zv8, (by repeat (first | (with_reducible first | exact HB.out | apply zRe | apply zRh | apply zRj | refine zRi ?_ GE454.out | refine zRi ?_ GE460.out) | exact HB.out))⟩
   ·rw [if_neg c8] at H; exact absurd H zv10
 ·rw [if_neg c3] at H; have c3b0 : (t455 == 0) = false := beq_eq_false_iff_ne.mpr c3; have c3b1 : (t455 != 0) = true := bne_iff_ne.mpr c3; simp only [Option.some.injEq, Prod.mk.injEq] at H; obtain ⟨rfl, rfl, rfl, rfl, rfl⟩ := H; go_enter Tryd.func83, Tryd.ntmps83
  go_wp2_with (first | ((with_reducible refine zRq (N := 2) rfl ?_); refine zRn ?hg (N := 2) ?hd (cs := #[.string (⟨#[]⟩ : ByteArray), .int .u64 0, .int .u64 0]) (t := 44) ?hr ?_; (case hd => rfl); (case hg => rfl); (case hr => first | (go_simp; done) | (go_simp; rfl)); intro gb454 hg w22 hbox hb; have n0_ := Aside0.mk (zRd zv0 hb); have n1_ := Aside0.mk (hbox); have n2_ := Aside0.mk ((zv3w : w.heap.size ≤ gb454)); have n3_ := Aside0.mk ((zv3w : w.heap.size ≤ gb454)); clear HB; have HB := n0_; have BK454 := n1_; have GW454 := n2_; have GE454 := n3_; clear n0_ n1_ n2_ n3_; clear hb hbox hg) | ((with_reducible refine zRl (f := 36) rfl ?_); refine goesL_ (some 9) rfl rfl Tryd.func36 (by kernel_rfl) rfl #[.string a0] rfl zv3 ?_; (with_reducible refine (paymasterref09_Wrong.calls k a0 t455 _ A2.out).mono ?_); rintro e w23 ⟨rfl, hb⟩; refine ⟨_, rfl, ?_⟩; have n0_ := Aside0.mk (zRc (g := gb454) (o := .cells #[.string (⟨#[]⟩ : ByteArray), .int .u64 0, .int .u64 0] 44 (0, 0)) (zqb BK454.out) hb); have n1_ := Aside0.mk (zRd zvl hb); clear BK454; clear HB; have BK454 := n0_; have HB := n1_; clear n0_ n1_; (try clear hb); (try clear hb2); (try clear hk); (try clear hi); have hcz24_0 : w23.cell? ⟨gb454, 0, none⟩ = some (.string (⟨#[]⟩ : ByteArray)) := (zRa BK454.out 0).trans rfl; have hcz24_1 : w23.cell? ⟨gb454, 1, none⟩ = some (.int .u64 0) := (zRa BK454.out 1).trans rfl; have hcz24_2 : w23.cell? ⟨gb454, 2, none⟩ = some (.int .u64 0) := (zRa BK454.out 2).trans rfl; have hfz24_0 := zRb BK454.out 0; have hfz24_1 := zRb BK454.out 1; have hfz24_2 := zRb BK454.out 2))
  refine bodyPost_ret (results_ctt rfl _ _ gb454 44 #[.string (⟨#[]⟩ : ByteArray), .int .u64 0, .int .u64 0] (0, 0) _ rfl zv1a Tryd.underlying44 rfl (by kernel_rfl)) rfl ?_; exact ⟨zv8, zvl⟩
end Go.Proofs.YtpkjpiphjdpegaaDoor.P
namespace Go.Proofs.YtpkjpiphjdpegaaDoor.P
open Go.RowKit Go.Proofs.YtpkjpiphjdpegaaDoorW.PrintWords Go.Proofs.YtpkjpiphjdpegaaDoorW.PrintLast Go.Proofs.YtpkjpiphjdpegaaDoorW.PrintMore
set_option linter.unusedVariables false
set_option linter.unusedSimpArgs false
theorem tm (x : Int) (h0 : 0 ≤ x) : Int.tmod x 65536 = x % 65536 := Int.tmod_eq_emod_of_nonneg h0
theorem td (x : Int) (h0 : 0 ≤ x) : Int.tdiv x 65536 = x / 65536 := Int.tdiv_eq_ediv_of_nonneg h0
def dg (hi lo : Int) : List Int := [lo % 65536, lo / 65536 % 65536, lo / 65536 / 65536 % 65536, lo / 65536 / 65536 / 65536 % 65536, hi % 65536, hi / 65536 % 65536, hi / 65536 / 65536 % 65536, hi / 65536 / 65536 / 65536 % 65536]
theorem dg_step {k : Nat} (l : List Int) (i x y : Int) (hi : 0 ≤ i) (hi4 : i < 4) (hl : l.length < 100) (hx : 0 ≤ y) (hy : y < 18446744073709551616) :
  paymasterref01_digits.l0 (k + 1) l i x y = paymasterref01_digits.l0 k (l ++ [y % 65536]) (i + 1) x (y / 65536) := by
 simp only [paymasterref01_digits.l0]; rw [if_pos hi4, if_pos zv1, tm _ hx, td _ hx, wu _ zv1 zv1, wi _ zv1 zv1]
theorem dg_step1 {k : Nat} (l : List Int) (i x y : Int) (hi : 0 ≤ i) (hi4 : i < 4) (hl : l.length < 100) (hx : 0 ≤ x) (hy : x < 18446744073709551616) :
  paymasterref01_digits.l1 (k + 1) l i x y = paymasterref01_digits.l1 k (l ++ [x % 65536]) (i + 1) (x / 65536) y := by
 simp only [paymasterref01_digits.l1]; rw [if_pos hi4, if_pos zv1, tm _ hx, td _ hx, wu _ zv1 zv1, wi _ zv1 zv1]
theorem digits_is (k : Nat) (hi lo : Int) (h : U64 hi) (h' : U64 lo) : paymasterref01_digits.f (k + 10) hi lo = some (dg hi lo) := by
 unfold paymasterref01_digits.f; rw [dg_step _ 0 _ _ zv1 zv1 zv10 h'.1 h'.2, dg_step _ _ _ _ zv1 zv1 zv10 zv1 zv1, dg_step _ _ _ _ zv1 zv1 zv10 zv1 zv1, dg_step _ _ _ _ zv1 zv1 zv10 zv1 zv1]; simp only [paymasterref01_digits.l0]; rw [if_neg zv1]; rw [dg_step1 _ 0 _ _ zv1 zv1 zv10 h.1 h.2, dg_step1 _ _ _ _ zv1 zv1 zv10 zv1 zv1, dg_step1 _ _ _ _ zv1 zv1 zv10 zv1 zv1, dg_step1 _ _ _ _ zv1 zv1 zv10 zv1 zv1]; simp only [paymasterref01_digits.l1]; rw [if_neg zv1]; rfl
def D16 (x : Int) : Prop := 0 ≤ x ∧ x < 65536
theorem num_hi {k : Nat} (l : List Int) (i j a b : Int) (hj : i = j + 1) (h4 : 4 ≤ i) (h8 : i < 8) (hl : i < l.length) (ha : 0 ≤ a) (ha' : a < 281474976710656) (hd : D16 (rd l i)) :
  paymasterref01_number.l0 (k + 3) l i a b = paymasterref01_number.l0 k l j (a * 65536 + rd l i) b := by
 obtain rfl : j = i - 1 := by omega
 obtain ⟨d0, d1⟩ := hd; simp only [paymasterref01_number.l0, paymasterref01_number.j1, paymasterref01_number.j2]; rw [if_pos zv1, if_neg zv1, if_neg zv10, if_pos h8, if_pos (by simpa using h4), if_pos zv1, if_pos hl, if_neg zv1, wu (a * 65536) zv1 zv1, wu _ zv1 zv1, wi _ zv1 zv1]
theorem num_lo {k : Nat} (l : List Int) (i j a b : Int) (hj : i = j + 1) (h4 : 0 ≤ i) (h8 : i < 4) (hl : i < l.length) (ha : 0 ≤ b) (ha' : b < 281474976710656) (hd : D16 (rd l i)) :
  paymasterref01_number.l0 (k + 3) l i a b = paymasterref01_number.l0 k l j a (b * 65536 + rd l i) := by
 obtain rfl : j = i - 1 := by omega
 obtain ⟨d0, d1⟩ := hd; simp only [paymasterref01_number.l0, paymasterref01_number.j1, paymasterref01_number.j2]; rw [if_pos zv1, if_neg zv1, if_neg zv10, if_pos zv1, if_neg zv27, if_pos zv1, if_pos zv1, if_pos hl, wu (b * 65536) zv1 zv1, wu _ zv1 zv1, wi _ zv1 zv1]
theorem num_top {k : Nat} (l : List Int) (i a b : Int) (h8 : 8 ≤ i) (hl : i < l.length) (hb : i < 100) :
  paymasterref01_number.l0 (k + 3) l i a b = if rd l i = 0 then paymasterref01_number.l0 k l (i - 1) a b else some (0, 0, false) := by
 simp only [paymasterref01_number.l0, paymasterref01_number.j1, paymasterref01_number.j2]; rw [if_pos zv1, if_pos zv1, if_pos zv1, if_pos hl]
 by_cases h : rd l i = 0
 ·rw [if_pos h, if_neg (by simp [h]), if_neg zv1, if_neg zv10, if_neg zv1, wi _ zv1 zv1]
 ·rw [if_neg h, if_pos (by simpa using h)]
theorem num_end {k : Nat} (l : List Int) (a b : Int) : paymasterref01_number.l0 (k + 1) l (-1) a b = some (a, b, true) := by
 simp only [paymasterref01_number.l0]; rw [if_neg zv1]
theorem num_body (k : Nat) (l : List Int) (a b c d e f g h : Int) (hl : 8 ≤ l.length) (e0 : rd l 0 = a) (e1 : rd l 1 = b) (e2 : rd l 2 = c) (e3 : rd l 3 = d) (e4 : rd l 4 = e) (e5 : rd l 5 = f) (e6 : rd l 6 = g) (e7 : rd l 7 = h)
  (ha : D16 a) (hb : D16 b) (hc : D16 c) (hd : D16 d) (he : D16 e) (hf_ : D16 f) (hg : D16 g) (hh : D16 h) :
  paymasterref01_number.l0 (k + 25) l 7 0 0 = some (hf e f g h, hf a b c d, true) := by
 have b0 := ha; have b1 := hb; have b2 := hc; have b3 := hd; have b4 := he; have b5 := hf_; have b6 := hg; have b7 := hh; unfold D16 at b0 b1 b2 b3 b4 b5 b6 b7; subst e0 e1 e2 e3 e4 e5 e6 e7; rw [num_hi l 7 (6) _ _ rfl zv1 zv1 zv1 zv1 zv1 hh, num_hi l 6 (5) _ _ rfl zv1 zv1 zv1 zv1 zv1 hg, num_hi l 5 (4) _ _ rfl zv1 zv1 zv1 zv1 zv1 hf_, num_hi l 4 (3) _ _ rfl zv1 zv1 zv1 zv1 zv1 he, num_lo l 3 (2) _ _ rfl zv1 zv1 zv1 zv1 zv1 hd, num_lo l 2 (1) _ _ rfl zv1 zv1 zv1 zv1 zv1 hc, num_lo l 1 (0) _ _ rfl zv1 zv1 zv1 zv1 zv1 hb, num_lo l 0 (-1) _ _ rfl zv1 zv1 zv1 zv1 zv1 ha]; refine (num_end (k := k) l _ _).trans ?_; unfold hf; simp only [Int.zero_mul, Int.zero_add]
theorem number9 (k : Nat) (a b c d e f g h i : Int) (ha : D16 a) (hb : D16 b) (hc : D16 c) (hd : D16 d) (he : D16 e) (hf_ : D16 f) (hg : D16 g) (hh : D16 h) :
  paymasterref01_number.f (k + 28) [a, b, c, d, e, f, g, h, i] = some (if i = 0 then (hf e f g h, hf a b c d, true) else (0, 0, false)) := by
 unfold paymasterref01_number.f; rw [show wrap64 (([a, b, c, d, e, f, g, h, i].length : Int) - 1) = 8 from by simp [wrap64]]; refine (num_top (k := k + 25) [a, b, c, d, e, f, g, h, i] 8 0 0 zv1 zv10 zv1).trans ?_; have e8 : rd [a, b, c, d, e, f, g, h, i] 8 = i := rfl; rw [e8]
 by_cases hi : i = 0
 ·rw [if_pos hi, if_pos hi]; exact num_body k _ a b c d e f g h zv10 rfl rfl rfl rfl rfl rfl rfl rfl ha hb hc hd he hf_ hg hh
 ·rw [if_neg hi, if_neg hi]
theorem split4 (x : Int) (h : U64 x) : ∃ d0 d1 d2 d3 : Int, x % 65536 = d0 ∧ x / 65536 % 65536 = d1 ∧ x / 65536 / 65536 % 65536 = d2 ∧ x / 65536 / 65536 / 65536 % 65536 = d3 ∧ D16 d0 ∧ D16 d1 ∧ D16 d2 ∧ D16 d3 ∧ x = hf d0 d1 d2 d3 := by
 obtain ⟨h0, h1⟩ := h; refine ⟨_, _, _, _, rfl, rfl, rfl, rfl, ?_⟩; unfold D16 hf; obtain ⟨a, ha⟩ : ∃ a, x / 65536 = a := ⟨_, rfl⟩
 rw [ha]; obtain ⟨b, hb⟩ : ∃ b, a / 65536 = b := ⟨_, rfl⟩
 rw [hb]; obtain ⟨c, hc⟩ : ∃ c, b / 65536 = c := ⟨_, rfl⟩
 rw [hc]; have e0 : x = a * 65536 + x % 65536 := by omega
 have e1 : a = b * 65536 + a % 65536 := by omega
 have e2 : b = c * 65536 + b % 65536 := by omega
 have c1 : 0 ≤ c ∧ c < 65536 := by omega
 generalize hx : x % 65536 = p at *; generalize hy : a % 65536 = q at *; generalize hz : b % 65536 = r at *; have hw : c % 65536 = c := by omega
 rw [hw]; refine ⟨zv1, zv1, zv1, zv1, ?_⟩; clear ha hb hc hx hy hz hw h0 h1 c1; subst e2; subst e1; exact e0
theorem dg_cases (hi lo : Int) (h : U64 hi) (h' : U64 lo) : ∃ d0 d1 d2 d3 d4 d5 d6 d7 : Int, dg hi lo = [d0, d1, d2, d3, d4, d5, d6, d7] ∧ D16 d0 ∧ D16 d1 ∧ D16 d2 ∧ D16 d3 ∧ D16 d4 ∧ D16 d5 ∧ D16 d6 ∧ D16 d7 ∧ hi = hf d4 d5 d6 d7 ∧ lo = hf d0 d1 d2 d3 := by
 obtain ⟨d0, d1, d2, d3, e0, e1, e2, e3, h0, h1, h2, h3, hl⟩ := split4 lo h'; obtain ⟨d4, d5, d6, d7, e4, e5, e6, e7, h4, h5, h6, h7, hh⟩ := split4 hi h; refine ⟨d0, d1, d2, d3, d4, d5, d6, d7, ?_, h0, h1, h2, h3, h4, h5, h6, h7, hh, hl⟩; unfold dg; rw [e0, e1, e2, e3, e4, e5, e6, e7]
theorem add_step {k : Nat} (X Y out : List Int) (c i j x y : Int) (hj : j = i + 1) (h0 : 0 ≤ i) (h8 : i < 8) (hX : (X.length : Int) = 8) (hY : (Y.length : Int) = 8) (hx : rd X i = x) (hy : rd Y i = y) (dx : D16 x) (dy : D16 y) (hc : 0 ≤ c) (hc1 : c ≤ 1) (hl : out.length < 100) :
  paymasterref01_Add.l0 (k + 1) X Y c out i = paymasterref01_Add.l0 k X Y ((x + y + c) / 65536) (out ++ [(x + y + c) % 65536]) j := by
 obtain ⟨x0, x1⟩ := dx; obtain ⟨y0, y1⟩ := dy; subst hj hx hy; simp only [paymasterref01_Add.l0]; rw [if_pos h8, if_pos h0, if_pos zv1, if_pos zv1, if_pos zv1, wu (rd X i + rd Y i) zv1 zv1, wu (rd X i + rd Y i + c) zv1 zv1, tm _ zv1, td _ zv1, wu _ zv1 zv1, wi _ zv1 zv1]
theorem sum_digits (x0 x1 x2 x3 x4 x5 x6 x7 : Int) : hf x4 x5 x6 x7 * 18446744073709551616 + hf x0 x1 x2 x3 = x0 + x1 * 65536 + x2 * 4294967296 + x3 * 281474976710656 + x4 * 18446744073709551616 + x5 * 1208925819614629174706176 + x6 * 79228162514264337593543950336 + x7 * 5192296858534827628530496329220096 := by
 unfold hf; omega
theorem hf_range (a b c d : Int) (ha : D16 a) (hb : D16 b) (hc : D16 c) (hd : D16 d) : U64 (hf a b c d) := by
 unfold D16 at *; unfold hf; constructor <;> omega
set_option maxHeartbeats 400000 in
theorem refAdd_is (k : Nat) (a b c d : Int) (ha : U64 a) (hb : U64 b) (hc : U64 c) (hd : U64 d) : paymasterref01_Add.f (k + 50) a b c d = u128_Add.f a b c d := by
 unfold paymasterref01_Add.f; have A : paymasterref01_digits.f (k + 50) a b = some (dg a b) := digits_is (k + 40) a b ha hb; have B : paymasterref01_digits.f (k + 50) c d = some (dg c d) := digits_is (k + 40) c d hc hd; rw [A, B]; clear A B; simp only [Option.bind_some]; obtain ⟨x0, x1, x2, x3, x4, x5, x6, x7, eX, hx0, hx1, hx2, hx3, hx4, hx5, hx6, hx7, va, vb⟩ := dg_cases a b ha hb; obtain ⟨y0, y1, y2, y3, y4, y5, y6, y7, eY, hy0, hy1, hy2, hy3, hy4, hy5, hy6, hy7, vc, vd⟩ := dg_cases c d hc hd; have lx : ((dg a b).length : Int) = 8 := rfl; have ly : ((dg c d).length : Int) = 8 := rfl; have e0 : rd (dg a b) 0 = x0 := by rw [eX]; rfl
 have e1 : rd (dg a b) 1 = x1 := by rw [eX]; rfl
 have e2 : rd (dg a b) 2 = x2 := by rw [eX]; rfl
 have e3 : rd (dg a b) 3 = x3 := by rw [eX]; rfl
 have e4 : rd (dg a b) 4 = x4 := by rw [eX]; rfl
 have e5 : rd (dg a b) 5 = x5 := by rw [eX]; rfl
 have e6 : rd (dg a b) 6 = x6 := by rw [eX]; rfl
 have e7 : rd (dg a b) 7 = x7 := by rw [eX]; rfl
 have f0 : rd (dg c d) 0 = y0 := by rw [eY]; rfl
 have f1 : rd (dg c d) 1 = y1 := by rw [eY]; rfl
 have f2 : rd (dg c d) 2 = y2 := by rw [eY]; rfl
 have f3 : rd (dg c d) 3 = y3 := by rw [eY]; rfl
 have f4 : rd (dg c d) 4 = y4 := by rw [eY]; rfl
 have f5 : rd (dg c d) 5 = y5 := by rw [eY]; rfl
 have f6 : rd (dg c d) 6 = y6 := by rw [eY]; rfl
 have f7 : rd (dg c d) 7 = y7 := by rw [eY]; rfl
 generalize dg a b = X at *; generalize dg c d = Y at *
 have vx : val a b = x0 + x1 * 65536 + x2 * 4294967296 + x3 * 281474976710656 + x4 * 18446744073709551616 + x5 * 1208925819614629174706176 + x6 * 79228162514264337593543950336 + x7 * 5192296858534827628530496329220096 := by
  unfold val; rw [va, vb, sum_digits]
 have vy : val c d = y0 + y1 * 65536 + y2 * 4294967296 + y3 * 281474976710656 + y4 * 18446744073709551616 + y5 * 1208925819614629174706176 + y6 * 79228162514264337593543950336 + y7 * 5192296858534827628530496329220096 := by
  unfold val; rw [vc, vd, sum_digits]
 clear eX eY va vb vc vd
 have key : ∀ x y c : Int, D16 x → D16 y → 0 ≤ c → c ≤ 1 → ∃ s q : Int, (x + y + c) % 65536 = s ∧ (x + y + c) / 65536 = q ∧ D16 s ∧ 0 ≤ q ∧ q ≤ 1 ∧ x + y + c = q * 65536 + s := by
  intro x y c hx hy h0 h1; unfold D16 at *; exact ⟨_, _, rfl, rfl, zv1, zv1, zv1, zv1⟩
 obtain ⟨s0, c1, p0, q0, t0, g0, g0', v0⟩ := key x0 y0 0 hx0 hy0 zv1 zv1; obtain ⟨s1, c2, p1, q1, t1, g1, g1', v1⟩ := key x1 y1 c1 hx1 hy1 g0 g0'; obtain ⟨s2, c3, p2, q2, t2, g2, g2', v2⟩ := key x2 y2 c2 hx2 hy2 g1 g1'; obtain ⟨s3, c4, p3, q3, t3, g3, g3', v3⟩ := key x3 y3 c3 hx3 hy3 g2 g2'; obtain ⟨s4, c5, p4, q4, t4, g4, g4', v4⟩ := key x4 y4 c4 hx4 hy4 g3 g3'; obtain ⟨s5, c6, p5, q5, t5, g5, g5', v5⟩ := key x5 y5 c5 hx5 hy5 g4 g4'; obtain ⟨s6, c7, p6, q6, t6, g6, g6', v6⟩ := key x6 y6 c6 hx6 hy6 g5 g5'; obtain ⟨s7, c8, p7, q7, t7, g7, g7', v7⟩ := key x7 y7 c7 hx7 hy7 g6 g6'; refine (add_step (k := k + 49) X Y [] 0 0 1 x0 y0 rfl zv1 zv1 lx ly e0 f0 hx0 hy0 zv1 zv1 zv10).trans ?_; rw [p0, q0]; simp only [List.nil_append]; refine (add_step (k := k + 48) X Y [s0] c1 1 2 x1 y1 rfl zv1 zv1 lx ly e1 f1 hx1 hy1 g0 g0' zv10).trans ?_; rw [p1, q1]; simp only [List.cons_append, List.nil_append]; refine (add_step (k := k + 47) X Y [s0, s1] c2 2 3 x2 y2 rfl zv1 zv1 lx ly e2 f2 hx2 hy2 g1 g1' zv10).trans ?_; rw [p2, q2]; simp only [List.cons_append, List.nil_append]; refine (add_step (k := k + 46) X Y [s0, s1, s2] c3 3 4 x3 y3 rfl zv1 zv1 lx ly e3 f3 hx3 hy3 g2 g2' zv10).trans ?_; rw [p3, q3]; simp only [List.cons_append, List.nil_append]; refine (add_step (k := k + 45) X Y [s0, s1, s2, s3] c4 4 5 x4 y4 rfl zv1 zv1 lx ly e4 f4 hx4 hy4 g3 g3' zv10).trans ?_; rw [p4, q4]; simp only [List.cons_append, List.nil_append]; refine (add_step (k := k + 44) X Y [s0, s1, s2, s3, s4] c5 5 6 x5 y5 rfl zv1 zv1 lx ly e5 f5 hx5 hy5 g4 g4' zv10).trans ?_; rw [p5, q5]; simp only [List.cons_append, List.nil_append]; refine (add_step (k := k + 43) X Y [s0, s1, s2, s3, s4, s5] c6 6 7 x6 y6 rfl zv1 zv1 lx ly e6 f6 hx6 hy6 g5 g5' zv10).trans ?_; rw [p6, q6]; simp only [List.cons_append, List.nil_append]; refine (add_step (k := k + 42) X Y [s0, s1, s2, s3, s4, s5, s6] c7 7 8 x7 y7 rfl zv1 zv1 lx ly e7 f7 hx7 hy7 g6 g6' zv10).trans ?_; rw [p7, q7]; simp only [List.cons_append, List.nil_append]
 have fin : paymasterref01_Add.l0 (k + 42) X Y c8 [s0, s1, s2, s3, s4, s5, s6, s7] 8 = (paymasterref01_number.f (k + 41) [s0, s1, s2, s3, s4, s5, s6, s7, c8]).bind fun bt153 => (if bt153.2.2 = true then (some (bt153.1, bt153.2.1, 0)) else (some (0, 0, 10))) := by
  rw [paymasterref01_Add.l0, if_neg zv1, if_pos zv10]; rfl
 refine fin.trans ?_; have N := number9 (k + 13) s0 s1 s2 s3 s4 s5 s6 s7 c8 t0 t1 t2 t3 t4 t5 t6 t7; rw [show k + 13 + 28 = k + 41 from rfl] at N; rw [N]; clear N fin; have sd := sum_digits s0 s1 s2 s3 s4 s5 s6 s7; have hr := hf_range s4 s5 s6 s7 t4 t5 t6 t7; have hr' := hf_range s0 s1 s2 s3 t0 t1 t2 t3
 have tot : val a b + val c d = c8 * 340282366920938463463374607431768211456 + (hf s4 s5 s6 s7 * 18446744073709551616 + hf s0 s1 s2 s3) := by
  rw [sd, vx, vy]; omega
 obtain ⟨r0, r1⟩ := hr; obtain ⟨r2, r3⟩ := hr'; generalize hf s4 s5 s6 s7 = H at *; generalize hf s0 s1 s2 s3 = L at *; clear sd vx vy key
 by_cases h8 : c8 = 0
 ·have hlt : val a b + val c d < m128 := by unfold m128; omega
  have hh := halves (val a b + val c d) H L ⟨r2, r3⟩ (by rw [tot, h8]; omega)
  have hA : u128_Add.f a b c d = some (H, L, 0) := by
   unfold u128_Add.f; rw [if_pos (show U64 a ∧ U64 b ∧ U64 c ∧ U64 d from ⟨ha, hb, hc, hd⟩), if_pos hlt, hh.1, hh.2]
  rw [hA, if_pos h8]; rfl
 ·have hge : ¬ (val a b + val c d < m128) := by unfold m128; omega
  have hA : u128_Add.f a b c d = some (0, 0, 10) := by
   unfold u128_Add.f; rw [if_pos (show U64 a ∧ U64 b ∧ U64 c ∧ U64 d from ⟨ha, hb, hc, hd⟩), if_neg hge]
  rw [hA, if_neg h8]; rfl
theorem d16 (x : Int) (h : D16 x) : 0 ≤ x ∧ x < 65536 := h
theorem u0 : U64 0 := ⟨zv1, zv1⟩
def numL : List Int → Int
 | [] => 0
 | x :: l => x + 65536 * numL l
def Ds (l : List Int) : Prop := ∀ d, d ∈ l → D16 d
theorem numL_nonneg : ∀ (l : List Int), Ds l → 0 ≤ numL l
 | [], _ => by simp [numL]
 | x :: l, h => by
  have h0 := numL_nonneg l (fun d hd => h d (List.mem_cons_of_mem _ hd)); have h1 := h x (List.mem_cons_self ..); unfold D16 at h1; simp only [numL]; omega
theorem numL_set : ∀ (l : List Int) (m : Nat) (v : Int), m < l.length → numL (l.set m v) = numL l + (v - l.getD m 0) * 65536 ^ m
 | x :: l, 0, v, _ => by
  simp only [zsb, numL, List.getD_cons_zero, Int.pow_zero]; omega
 | x :: l, m + 1, v, h => by
  simp only [zsc, numL, List.getD_cons_succ, Int.pow_succ]; rw [numL_set l m v (by simpa using h)]; have e : (v - l.getD m 0) * (65536 ^ m * 65536) = 65536 * ((v - l.getD m 0) * 65536 ^ m) := by rw [← Int.mul_assoc, Int.mul_comm]
  rw [e]; omega
theorem Ds_set {l : List Int} {m : Nat} {v : Int} (h : Ds l) (hv : D16 v) : Ds (l.set m v) := by
 intro d hd
 rcases List.mem_or_eq_of_mem_set hd with h1 | h1
 ·exact h d h1
 ·subst h1; exact hv
theorem Ds_getD {l : List Int} {m : Nat} (h : Ds l) (hm : m < l.length) : D16 (l.getD m 0) := by
 rw [List.getD_eq_getElem?_getD, List.getElem?_eq_getElem hm]; exact h _ (List.getElem_mem hm)
theorem pow_pos' (m : Nat) : (0 : Int) < 65536 ^ m := Int.pow_pos zv1
theorem times_l1_mono {X Y out : List Int} {i c : Int} {r : Int × Int × Int} : ∀ (j k : Nat), paymasterref01_Times.l1 k X Y out i c = some r → paymasterref01_Times.l1 (k + j) X Y out i c = some r
 | 0, k, h => h
 | j + 1, k, h => (paymasterref01_Times.mono_l (k + j)).2.1 _ _ _ _ _ r (times_l1_mono j k h)
theorem times_l2 (X Y : List Int) (i c : Int) : ∀ (j : Nat) (out : List Int) (more : Int) (m : Nat), out.length = 17 → Ds out → m + j = 17 → 0 ≤ more → more < 4294967296 → numL out + more * 65536 ^ m < 65536 ^ 17 →
  ∃ out', out'.length = 17 ∧ Ds out' ∧ numL out' = numL out + more * 65536 ^ m ∧ ∀ k r, paymasterref01_Times.l1 k X Y out' i (wrap64 (c + 1)) = some r → paymasterref01_Times.l2 (k + (j + 1)) X Y out i c more (m : Int) = some r
 | 0, out, more, m, hl, hd, hm, h0, h1, hT => by
  obtain rfl : m = 17 := by omega
  have n0 := numL_nonneg out hd; have z : more = 0 := by omega
  subst z; refine ⟨out, hl, hd, zv1, fun k r h => ?_⟩; show paymasterref01_Times.l2 (k + 1) X Y out i c 0 _ = some r; simp only [paymasterref01_Times.l2]; rw [if_neg zv1]; exact h
 | j + 1, out, more, m, hl, hd, hm, h0, h1, hT => by
  by_cases hp : more > 0
  ·have hD := Ds_getD (m := m) hd zv1; have S := numL_set out m ((more + out.getD m 0) % 65536) zv1; generalize e : out.getD m 0 = y at hD S; obtain ⟨y0, y1⟩ := hD; obtain ⟨q, hq⟩ : ∃ q, (more + y) / 65536 = q := ⟨_, rfl⟩
   obtain ⟨s, hs⟩ : ∃ s, (more + y) % 65536 = s := ⟨_, rfl⟩
   rw [hs] at S; have hD' : D16 s := ⟨zv1, zv1⟩
   have E : numL (out.set m s) + q * 65536 ^ (m + 1) = numL out + more * 65536 ^ m := by
    rw [S, Int.pow_succ]; have e1 : more = q * 65536 + (s - y) := by omega
    rw [e1, Int.add_mul, Int.mul_assoc q 65536, Int.mul_comm 65536 (65536 ^ m)]; omega
   obtain ⟨out', a1, a2, a3, a4⟩ := times_l2 X Y i c j (out.set m s) q (m + 1) (by simpa using hl) (Ds_set hd hD') zv1 zv1 zv1 (by rw [E]; exact hT); refine ⟨out', a1, a2, a3.trans E, fun k r h => ?_⟩; have F := a4 k r h; show paymasterref01_Times.l2 (k + (j + 1) + 1) X Y out i c more (m : Int) = some r; simp only [paymasterref01_Times.l2]; rw [if_pos hp, if_pos zv1, if_pos (by rw [hl]; omega), show rd out (m : Int) = y from e, wu (more + y) zv1 zv1, tm _ zv1, td _ zv1, hs, hq, wu q zv1 zv1, show wrap64 ((m : Int) + 1) = ((m + 1 : Nat) : Int) from by rw [wi _ zv1 zv1]; omega, Int.toNat_natCast]; exact F
  ·obtain rfl : more = 0 := by omega
   refine ⟨out, hl, hd, zv1, fun k r h => ?_⟩; show paymasterref01_Times.l2 (k + (j + 1) + 1) X Y out i c 0 _ = some r; simp only [paymasterref01_Times.l2]; rw [if_neg zv1]; exact times_l1_mono (j + 1) k h
theorem times_l1 (X Y out : List Int) (i c : Nat) (x y : Int) (hi : i < 8) (hc : c < 4) (lX : X.length = 8) (lY : Y.length = 8) (hx : rd X i = x) (hy : rd Y c = y) (dx : D16 x) (dy : D16 y) (hl : out.length = 17) (hd : Ds out) (hT : numL out + x * y * 65536 ^ (i + c) < 65536 ^ 17) :
  ∃ out', out'.length = 17 ∧ Ds out' ∧ numL out' = numL out + x * y * 65536 ^ (i + c) ∧ ∀ k r, paymasterref01_Times.l1 k X Y out' i ((c + 1 : Nat) : Int) = some r → paymasterref01_Times.l1 (k + 20) X Y out i (c : Int) = some r := by
 obtain ⟨x0, x1⟩ := dx; obtain ⟨y0, y1⟩ := dy; have p0 : 0 ≤ x * y := Int.mul_nonneg x0 y0; have p1 : x * y ≤ 65535 * 65535 := Int.mul_le_mul zv1 zv1 y0 zv1; obtain ⟨out', a1, a2, a3, a4⟩ := times_l2 X Y i c (17 - (i + c)) out (x * y) (i + c) hl hd zv1 p0 zv1 hT; refine ⟨out', a1, a2, a3, fun k r h => ?_⟩; rw [show wrap64 ((c : Int) + 1) = ((c + 1 : Nat) : Int) from by rw [wi _ zv1 zv1]; omega] at a4; have F := a4 (k + (18 - (17 - (i + c)))) r (times_l1_mono _ k h); rw [show k + (18 - (17 - (i + c))) + (17 - (i + c) + 1) = k + 19 from by omega] at F; show paymasterref01_Times.l1 (k + 19 + 1) X Y out i (c : Int) = some r; simp only [paymasterref01_Times.l1]; rw [if_pos zv1, if_pos zv1, if_pos zv1, if_pos zv1, if_pos zv1, hx, hy, wu (x * y) p0 zv1, show wrap64 ((i : Int) + (c : Int)) = ((i + c : Nat) : Int) from by rw [wi _ zv1 zv1]; omega]; exact F
theorem times_row (X Y out : List Int) (i : Nat) (x a b c d : Int) (hi : i < 8) (lX : X.length = 8) (lY : Y.length = 8) (hx : rd X i = x) (ha : rd Y 0 = a) (hb : rd Y 1 = b) (hc : rd Y 2 = c) (hd : rd Y 3 = d) (dx : D16 x) (da : D16 a) (db : D16 b) (dc : D16 c) (dd : D16 d) (hl : out.length = 17) (hD : Ds out)
  (hT : numL out + x * 65536 ^ i * hf a b c d < 65536 ^ 17) :
  ∃ out', out'.length = 17 ∧ Ds out' ∧ numL out' = numL out + x * 65536 ^ i * hf a b c d ∧ ∀ k r, paymasterref01_Times.l0 k X Y out' ((i + 1 : Nat) : Int) = some r → paymasterref01_Times.l0 (k + 82) X Y out (i : Int) = some r := by
 have P0 := pow_pos' i; have u : ∀ z : Int, 0 ≤ z → 0 ≤ x * z * 65536 ^ i := fun z hz => Int.mul_nonneg (Int.mul_nonneg dx.1 hz) zv1
 have u0 := u a da.1; have u1 := u b db.1; have u2 := u c dc.1; have u3 := u d dd.1; have sh : ∀ (z : Int) (t : Nat), x * z * 65536 ^ (i + t) = x * z * 65536 ^ i * 65536 ^ t := fun z t => by rw [Int.pow_add, ← Int.mul_assoc]
 have E : x * 65536 ^ i * hf a b c d = x * a * 65536 ^ i + x * b * 65536 ^ i * 65536 + x * c * 65536 ^ i * 4294967296 + x * d * 65536 ^ i * 281474976710656 := by
  have s : ∀ z : Int, x * z * 65536 ^ i = x * 65536 ^ i * z := fun z => Int.mul_right_comm ..
  rw [s, s, s, s]; generalize x * 65536 ^ i = g; unfold hf; simp only [Int.mul_add, ← Int.mul_assoc]; omega
 rw [E] at hT; obtain ⟨o1, a1, a2, a3, a4⟩ := times_l1 X Y out i 0 x a hi zv1 lX lY hx ha dx da hl hD (by rw [sh]; omega); rw [sh] at a3; obtain ⟨o2, b1, b2, b3, b4⟩ := times_l1 X Y o1 i 1 x b hi zv1 lX lY hx hb dx db a1 a2 (by rw [sh, a3]; omega); rw [sh] at b3; obtain ⟨o3, c1, c2, c3, c4⟩ := times_l1 X Y o2 i 2 x c hi zv1 lX lY hx hc dx dc b1 b2 (by rw [sh, b3, a3]; omega); rw [sh] at c3; obtain ⟨o4, d1, d2, d3, d4⟩ := times_l1 X Y o3 i 3 x d hi zv1 lX lY hx hd dx dd c1 c2 (by rw [sh, c3, b3, a3]; omega); rw [sh] at d3; refine ⟨o4, d1, d2, by rw [d3, c3, b3, a3, E]; omega, fun k r h => ?_⟩; show paymasterref01_Times.l0 (k + 81 + 1) X Y out (i : Int) = some r; simp only [paymasterref01_Times.l0]; rw [if_pos zv1]; refine a4 (k + 61) r (b4 (k + 41) r (c4 (k + 21) r (d4 (k + 1) r ?_))); simp only [paymasterref01_Times.l1]; rw [if_neg zv1, show wrap64 ((i : Int) + 1) = ((i + 1 : Nat) : Int) from by rw [wi _ zv1 zv1]; omega]; exact h
theorem rd_drop (X : List Int) (i : Nat) (h : i < X.length) : X.drop i = rd X i :: X.drop (i + 1) := by
 rw [List.drop_eq_getElem_cons h]
 congr 1
 show X[i] = X.getD i 0; rw [List.getD_eq_getElem?_getD, List.getElem?_eq_getElem h]; rfl
theorem times_l0 (X Y : List Int) (a b c d : Int) (lX : X.length = 8) (lY : Y.length = 8) (dX : Ds X) (ha : rd Y 0 = a) (hb : rd Y 1 = b) (hc : rd Y 2 = c) (hd : rd Y 3 = d) (da : D16 a) (db : D16 b) (dc : D16 c) (dd : D16 d) : ∀ (t i : Nat) (out : List Int), i + t = 8 → out.length = 17 → Ds out → numL out + numL (X.drop i) * 65536 ^ i * hf a b c d < 65536 ^ 17 →
  ∃ out', out'.length = 17 ∧ Ds out' ∧ numL out' = numL out + numL (X.drop i) * 65536 ^ i * hf a b c d ∧ ∀ k r, paymasterref01_Times.l0 k X Y out' 8 = some r → paymasterref01_Times.l0 (k + 82 * t) X Y out (i : Int) = some r
 | 0, i, out, hi, hl, hD, hT => by
  obtain rfl : i = 8 := by omega
  have e : X.drop 8 = [] := List.drop_eq_nil_of_le zv1; refine ⟨out, hl, hD, ?_, fun k r h => h⟩; rw [e]; simp [numL]
 | t + 1, i, out, hi, hl, hD, hT => by
  have hN := hf_range a b c d da db dc dd; have dx := Ds_getD (m := i) dX zv1; have e := rd_drop X i zv1; have P0 := pow_pos' i; have R0 : 0 ≤ numL (X.drop (i + 1)) := numL_nonneg _ (fun d hd => dX d (List.mem_of_mem_drop hd)); have hx : rd X i = X.getD i 0 := rfl
  have E : numL (X.drop i) * 65536 ^ i * hf a b c d = rd X i * 65536 ^ i * hf a b c d + numL (X.drop (i + 1)) * 65536 ^ (i + 1) * hf a b c d := by
   rw [e]; simp only [numL]; rw [← Int.add_mul, Int.pow_succ, Int.add_mul, Int.mul_comm 65536, Int.mul_assoc (numL (X.drop (i + 1))), Int.mul_comm 65536 (65536 ^ i)]
  rw [E] at hT; have z : 0 ≤ numL (X.drop (i + 1)) * 65536 ^ (i + 1) * hf a b c d := Int.mul_nonneg (Int.mul_nonneg R0 (Int.le_of_lt (pow_pos' _))) hN.1; obtain ⟨o1, a1, a2, a3, a4⟩ := times_row X Y out i (rd X i) a b c d zv1 lX lY rfl ha hb hc hd dx da db dc dd hl hD zv1; obtain ⟨o2, b1, b2, b3, b4⟩ := times_l0 X Y a b c d lX lY dX ha hb hc hd da db dc dd t (i + 1) o1 zv1 a1 a2 (by rw [a3]; omega); refine ⟨o2, b1, b2, by rw [b3, a3, E]; omega, fun k r h => ?_⟩; rw [show k + 82 * (t + 1) = k + 82 * t + 82 from by omega]; exact a4 _ r (b4 k r h)
theorem numL_dg (a b : Int) (ha : U64 a) (hb : U64 b) : numL (dg a b) = val a b ∧ Ds (dg a b) ∧ (dg a b).length = 8 := by
 obtain ⟨d0, d1, d2, d3, d4, d5, d6, d7, eX, h0, h1, h2, h3, h4, h5, h6, h7, va, vb⟩ := dg_cases a b ha hb; rw [eX]; refine ⟨?_, ?_, rfl⟩
 ·unfold val; rw [va, vb, sum_digits]; simp only [numL]; omega
 ·intro d hd; simp only [List.mem_cons, List.not_mem_nil, or_false] at hd
  rcases hd with rfl | rfl | rfl | rfl | rfl | rfl | rfl | rfl <;> assumption
theorem list_cons {α : Type} (l : List α) (n : Nat) (h : l.length = n + 1) : ∃ x t, l = x :: t ∧ t.length = n := by
 cases l with
 | nil => cases h
 | cons x t => exact ⟨x, t, rfl, (by simpa using h)⟩
theorem number17 (k : Nat) (l : List Int) (hl : l.length = 17) (hd : Ds l) : paymasterref01_number.f (k + 55) l = some (if numL l < m128 then (hiOf (numL l), loOf (numL l), true) else (0, 0, false)) := by
 obtain ⟨d0, l1, rfl, k1⟩ := list_cons l 16 hl; obtain ⟨d1, l2, rfl, k2⟩ := list_cons l1 15 k1; obtain ⟨d2, l3, rfl, k3⟩ := list_cons l2 14 k2; obtain ⟨d3, l4, rfl, k4⟩ := list_cons l3 13 k3; obtain ⟨d4, l5, rfl, k5⟩ := list_cons l4 12 k4; obtain ⟨d5, l6, rfl, k6⟩ := list_cons l5 11 k5; obtain ⟨d6, l7, rfl, k7⟩ := list_cons l6 10 k6; obtain ⟨d7, l8, rfl, k8⟩ := list_cons l7 9 k7; obtain ⟨d8, l9, rfl, k9⟩ := list_cons l8 8 k8; obtain ⟨d9, l10, rfl, k10⟩ := list_cons l9 7 k9; obtain ⟨d10, l11, rfl, k11⟩ := list_cons l10 6 k10; obtain ⟨d11, l12, rfl, k12⟩ := list_cons l11 5 k11; obtain ⟨d12, l13, rfl, k13⟩ := list_cons l12 4 k12; obtain ⟨d13, l14, rfl, k14⟩ := list_cons l13 3 k13; obtain ⟨d14, l15, rfl, k15⟩ := list_cons l14 2 k14; obtain ⟨d15, l16, rfl, k16⟩ := list_cons l15 1 k15; obtain ⟨d16, l17, rfl, k17⟩ := list_cons l16 0 k16; obtain rfl := List.eq_nil_of_length_eq_zero k17; have h0 := hd d0 zv10; have h1 := hd d1 zv10; have h2 := hd d2 zv10; have h3 := hd d3 zv10; have h4 := hd d4 zv10; have h5 := hd d5 zv10; have h6 := hd d6 zv10; have h7 := hd d7 zv10; have h8 := (hd d8 zv10).1; have h9 := (hd d9 zv10).1; have h10 := (hd d10 zv10).1; have h11 := (hd d11 zv10).1; have h12 := (hd d12 zv10).1; have h13 := (hd d13 zv10).1; have h14 := (hd d14 zv10).1; have h15 := (hd d15 zv10).1; have h16 := (hd d16 zv10).1; clear hd; have s := sum_digits d0 d1 d2 d3 d4 d5 d6 d7; have r0 := hf_range d0 d1 d2 d3 h0 h1 h2 h3; have r1 := hf_range d4 d5 d6 d7 h4 h5 h6 h7; generalize eL : [d0, d1, d2, d3, d4, d5, d6, d7, d8, d9, d10, d11, d12, d13, d14, d15, d16] = L; have B := fun k => num_body k L d0 d1 d2 d3 d4 d5 d6 d7 (by rw [← eL]; simp) zv3a zv3a zv3a zv3a zv3a zv3a zv3a zv3a h0 h1 h2 h3 h4 h5 h6 h7
 have lL : (L.length : Int) = 17 := by rw [← eL]; rfl
 have e8 : rd L 8 = d8 := by rw [← eL]; rfl
 have e9 : rd L 9 = d9 := by rw [← eL]; rfl
 have e10 : rd L 10 = d10 := by rw [← eL]; rfl
 have e11 : rd L 11 = d11 := by rw [← eL]; rfl
 have e12 : rd L 12 = d12 := by rw [← eL]; rfl
 have e13 : rd L 13 = d13 := by rw [← eL]; rfl
 have e14 : rd L 14 = d14 := by rw [← eL]; rfl
 have e15 : rd L 15 = d15 := by rw [← eL]; rfl
 have e16 : rd L 16 = d16 := by rw [← eL]; rfl
 have e : numL L = d16 * 115792089237316195423570985008687907853269984665640564039457584007913129639936 + d15 * 1766847064778384329583297500742918515827483896875618958121606201292619776 + d14 * 26959946667150639794667015087019630673637144422540572481103610249216 + d13 * 411376139330301510538742295639337626245683966408394965837152256 + d12 * 6277101735386680763835789423207666416102355444464034512896 + d11 * 95780971304118053647396689196894323976171195136475136 + d10 * 1461501637330902918203684832716283019655932542976 + d9 * 22300745198530623141535718272648361505980416 + d8 * 340282366920938463463374607431768211456 + (hf d4 d5 d6 d7 * 18446744073709551616 + hf d0 d1 d2 d3) := by
  rw [s, ← eL]; simp only [numL]; omega
 obtain ⟨q0, q1⟩ := r0; obtain ⟨q2, q3⟩ := r1; generalize hf d4 d5 d6 d7 = H at *; generalize hf d0 d1 d2 d3 = J at *; clear h0 h1 h2 h3 h4 h5 h6 h7 s eL hl; unfold paymasterref01_number.f; rw [lL, show wrap64 ((17 : Int) - 1) = 16 from by simp [wrap64]]; have T := fun k i => num_top (k := k) L i 0 0
 have fin : ∀ v : Int, 0 < v → numL L = v * 340282366920938463463374607431768211456 + (H * 18446744073709551616 + J) → (some ((0 : Int), (0 : Int), false) : Option (Int × Int × Bool)) = some (if numL L < m128 then (hiOf (numL L), loOf (numL L), true) else (0, 0, false)) := by
  intro v hv he; rw [if_neg zv3t]
 rw [show k + 55 = k + 52 + 3 from rfl, T (k + 52) 16 zv1 zv1 zv1, e16]
 by_cases z16 : d16 = 0
 case neg => rw [if_neg z16]; exact fin (d16 * 340282366920938463463374607431768211456 + d15 * 5192296858534827628530496329220096 + d14 * 79228162514264337593543950336 + d13 * 1208925819614629174706176 + d12 * 18446744073709551616 + d11 * 281474976710656 + d10 * 4294967296 + d9 * 65536 + d8) zv1 zv1
 rw [if_pos z16, show (16 : Int) - 1 = 15 from rfl, show k + 52 = k + 49 + 3 from rfl, T (k + 49) 15 zv1 zv1 zv1, e15]
 by_cases z15 : d15 = 0
 case neg => rw [if_neg z15]; exact fin (d15 * 5192296858534827628530496329220096 + d14 * 79228162514264337593543950336 + d13 * 1208925819614629174706176 + d12 * 18446744073709551616 + d11 * 281474976710656 + d10 * 4294967296 + d9 * 65536 + d8) zv1 zv1
 rw [if_pos z15, show (15 : Int) - 1 = 14 from rfl, show k + 49 = k + 46 + 3 from rfl, T (k + 46) 14 zv1 zv1 zv1, e14]
 by_cases z14 : d14 = 0
 case neg => rw [if_neg z14]; exact fin (d14 * 79228162514264337593543950336 + d13 * 1208925819614629174706176 + d12 * 18446744073709551616 + d11 * 281474976710656 + d10 * 4294967296 + d9 * 65536 + d8) zv1 zv1
 rw [if_pos z14, show (14 : Int) - 1 = 13 from rfl, show k + 46 = k + 43 + 3 from rfl, T (k + 43) 13 zv1 zv1 zv1, e13]
 by_cases z13 : d13 = 0
 case neg => rw [if_neg z13]; exact fin (d13 * 1208925819614629174706176 + d12 * 18446744073709551616 + d11 * 281474976710656 + d10 * 4294967296 + d9 * 65536 + d8) zv1 zv1
 rw [if_pos z13, show (13 : Int) - 1 = 12 from rfl, show k + 43 = k + 40 + 3 from rfl, T (k + 40) 12 zv1 zv1 zv1, e12]
 by_cases z12 : d12 = 0
 case neg => rw [if_neg z12]; exact fin (d12 * 18446744073709551616 + d11 * 281474976710656 + d10 * 4294967296 + d9 * 65536 + d8) zv1 zv1
 rw [if_pos z12, show (12 : Int) - 1 = 11 from rfl, show k + 40 = k + 37 + 3 from rfl, T (k + 37) 11 zv1 zv1 zv1, e11]
 by_cases z11 : d11 = 0
 case neg => rw [if_neg z11]; exact fin (d11 * 281474976710656 + d10 * 4294967296 + d9 * 65536 + d8) zv1 zv1
 rw [if_pos z11, show (11 : Int) - 1 = 10 from rfl, show k + 37 = k + 34 + 3 from rfl, T (k + 34) 10 zv1 zv1 zv1, e10]
 by_cases z10 : d10 = 0
 case neg => rw [if_neg z10]; exact fin (d10 * 4294967296 + d9 * 65536 + d8) zv1 zv1
 rw [if_pos z10, show (10 : Int) - 1 = 9 from rfl, show k + 34 = k + 31 + 3 from rfl, T (k + 31) 9 zv1 zv1 zv1, e9]
 by_cases z9 : d9 = 0
 case neg => rw [if_neg z9]; exact fin (d9 * 65536 + d8) zv1 zv1
 rw [if_pos z9, show (9 : Int) - 1 = 8 from rfl, show k + 31 = k + 28 + 3 from rfl, T (k + 28) 8 zv1 zv1 zv1, e8]
 by_cases z8 : d8 = 0
 case neg => rw [if_neg z8]; exact fin d8 zv1 zv1
 rw [if_pos z8, show (8 : Int) - 1 = 7 from rfl, show k + 28 = k + 3 + 25 from rfl, B (k + 3)]; have e' : numL L = H * 18446744073709551616 + J := by omega
 obtain ⟨w1, w2⟩ := halves (numL L) H J ⟨q0, q1⟩ e'; rw [if_pos zv3t, w1, w2]
theorem refTimes_is (k : Nat) (a b n : Int) (ha : U64 a) (hb : U64 b) (hn : U64 n) : paymasterref01_Times.f (k + 720) a b n = u128_Times.f a b n := by
 rw [times_num a b n ha hb hn]; have u0' := u0; have A : paymasterref01_digits.f (k + 720) a b = some (dg a b) := digits_is (k + 710) a b ha hb; have B : paymasterref01_digits.f (k + 720) 0 n = some (dg 0 n) := digits_is (k + 710) 0 n u0' hn; unfold paymasterref01_Times.f; rw [A, Option.bind_some, B, Option.bind_some, if_pos zv1]; clear A B; obtain ⟨vX, dX, lX⟩ := numL_dg a b ha hb; obtain ⟨y0, y1, y2, y3, y4, y5, y6, y7, eY, g0, g1, g2, g3, g4, g5, g6, g7, vc, vd⟩ := dg_cases 0 n u0' hn; have lY : (dg 0 n).length = 8 := rfl; have f0 : rd (dg 0 n) 0 = y0 := by rw [eY]; rfl
 have f1 : rd (dg 0 n) 1 = y1 := by rw [eY]; rfl
 have f2 : rd (dg 0 n) 2 = y2 := by rw [eY]; rfl
 have f3 : rd (dg 0 n) 3 = y3 := by rw [eY]; rfl
 have v0 := val_range a b ha hb; have z17 : numL (List.replicate 17 0) = 0 := by decide
 have d17 : Ds (List.replicate 17 0) := by
  intro d hd; rw [List.eq_of_mem_replicate hd]; exact ⟨zv1, zv1⟩
 have V : numL (List.replicate 17 0) + numL ((dg a b).drop 0) * 65536 ^ 0 * hf y0 y1 y2 y3 = val a b * n := by
  rw [z17, List.drop_zero, vX, ← vd, Int.pow_zero, Int.mul_one, Int.zero_add]
 have p0 : 0 ≤ val a b * n := Int.mul_nonneg v0.1 hn.1; have p1 : val a b * n ≤ m128 * 18446744073709551616 := Int.mul_le_mul zv1 (by have := hn.2; omega) hn.1 zv3t; obtain ⟨out, a1, a2, a3, a4⟩ := times_l0 (dg a b) (dg 0 n) y0 y1 y2 y3 lX lY dX f0 f1 f2 f3 g0 g1 g2 g3 8 0 (List.replicate 17 0) rfl rfl d17 (by rw [V]; unfold m128 at p1; omega); rw [V] at a3; have N := number17 (k + 8) out a1 a2; rw [a3] at N
 have L : paymasterref01_Times.l0 (k + 64) (dg a b) (dg 0 n) out 8 = if val a b * n < m128 then some (hiOf (val a b * n), loOf (val a b * n), 0) else some (0, 0, 10) := by
  rw [show k + 64 = k + 63 + 1 from rfl, paymasterref01_Times.l0, if_neg zv1, show k + 63 = k + 8 + 55 from rfl, N, Option.bind_some]
  by_cases h : val a b * n < m128
  ·rw [if_pos h, if_pos h, if_pos rfl]
  ·rw [if_neg h, if_neg h, if_neg zv10]
 have G : ∀ r, (if val a b * n < m128 then some (hiOf (val a b * n), loOf (val a b * n), (0 : Int)) else some (0, 0, 10)) = some r → paymasterref01_Times.l0 (k + 720) (dg a b) (dg 0 n) (List.replicate 17 0) 0 = some r := by
  intro r h; exact a4 (k + 64) r (L.trans h)
 by_cases h : val a b * n < m128
 ·rw [if_pos h] at G ⊢; exact G _ rfl
 ·rw [if_neg h] at G ⊢; exact G _ rfl
theorem u_ten : U64 10 := ⟨zv1, zv1⟩
def bad (c : Int) : Bool := decide (c < 48) || decide (c > 57)
theorem nb_drop (s : ByteArray) (i : Nat) (h : i < s.size) : (nb s).drop i = bt s (i : Int) :: (nb s).drop (i + 1) := by
 rw [List.drop_eq_getElem_cons (by rw [nb_length]; exact h), bt_nb, List.getD_eq_getElem?_getD, List.getElem?_eq_getElem (by rw [nb_length]; exact h)]; rfl
theorem refParse_l0 (s : ByteArray) (hs : s.size ≤ 1000000000) (k : Nat) : ∀ (t i : Nat), i + t = s.size → paymasterref02_Parse.l0 (k + 1 + t) s (i : Int) 0 0 = if ((nb s).drop i).any bad = true then some (0, 0, 20) else paymasterref02_Parse.l0 (k + 1) s (s.size : Int) 0 0
 | 0, i, h => by
  obtain rfl : i = s.size := by omega
  rw [List.drop_of_length_le zv3n]; rfl
 | t + 1, i, h => by
  have ih := refParse_l0 s hs k t (i + 1) zv1; rw [nb_drop s i zv1, List.any_cons]; show paymasterref02_Parse.l0 (k + 1 + t + 1) s (i : Int) 0 0 = _; rw [paymasterref02_Parse.l0, if_pos zv1, if_pos zv1]
  by_cases h1 : bt s (i : Int) < 48
  ·rw [if_pos h1, show bad (bt s (i : Int)) = true from by unfold bad; simp [h1], if_pos zv10]
  ·rw [if_neg h1]
   by_cases h2 : bt s (i : Int) > 57
   ·rw [if_pos h2, show bad (bt s (i : Int)) = true from by unfold bad; simp [h2], if_pos zv10]
   ·rw [if_neg h2, show bad (bt s (i : Int)) = false from by unfold bad; rw [decide_eq_false h1, decide_eq_false h2]; rfl, Bool.false_or, wi _ zv1 zv1, show ((i : Int) + 1) = ((i + 1 : Nat) : Int) from by omega, ih]
theorem fold_ge (l : List Int) (a : Int) (ha : 0 ≤ a) (hl : Dig l) : a ≤ l.foldl (fun a d => a * 10 + d) a := by
 have h := (valD_range l hl).1; unfold valD at h; rw [fold_cons]; have p := ten_pos l.length; have : a * 1 ≤ a * 10 ^ l.length := Int.mul_le_mul_of_nonneg_left zv1 ha; omega
theorem refParse_l1 (s : ByteArray) (hs : s.size ≤ 1000000000) (hd : Dig (unasc (nb s))) (k : Nat) : ∀ (t i : Nat) (v : Int), i + t = s.size → 0 ≤ v → v < m128 → paymasterref02_Parse.l1 (k + 721 + t) s (i : Int) 0 0 (hiOf v) (loOf v) =
  if (unasc ((nb s).drop i)).foldl (fun a d => a * 10 + d) v < m128 then some (hiOf ((unasc ((nb s).drop i)).foldl (fun a d => a * 10 + d) v), loOf ((unasc ((nb s).drop i)).foldl (fun a d => a * 10 + d) v), 0) else some (0, 0, 10)
 | 0, i, v, h, v0, v1 => by
  rw [List.drop_of_length_le zv3n]; show paymasterref02_Parse.l1 (k + 720 + 1) s (i : Int) 0 0 (hiOf v) (loOf v) = if v < m128 then _ else _
  rw [paymasterref02_Parse.l1, if_neg zv1, if_pos v1]; rfl
 | t + 1, i, v, h, v0, v1 => by
  have dr := nb_drop s i zv1
  have hd' : Dig (unasc ((nb s).drop (i + 1))) := by
   intro d h; obtain ⟨c, hc, rfl⟩ := List.mem_map.1 h; exact hd _ (List.mem_map.2 ⟨c, List.mem_of_mem_drop hc, rfl⟩)
  have hb : 0 ≤ bt s (i : Int) - 48 ∧ bt s (i : Int) - 48 < 10 := by
   refine hd _ (List.mem_map.2 ⟨bt s (i : Int), ?_, rfl⟩); refine List.mem_of_mem_drop (i := i) ?_; rw [dr]; exact List.mem_cons_self ..
  obtain ⟨u1, u2⟩ := u_hiOf v v0 v1
  have e : (unasc ((nb s).drop i)).foldl (fun a d => a * 10 + d) v = (unasc ((nb s).drop (i + 1))).foldl (fun a d => a * 10 + d) (v * 10 + (bt s (i : Int) - 48)) := by
   rw [dr]; rfl
  rw [e]; obtain ⟨D, hD⟩ : ∃ D, unasc ((nb s).drop (i + 1)) = D := ⟨_, rfl⟩
  rw [hD] at hd' ⊢; have T := refTimes_is (k + t + 1) (hiOf v) (loOf v) 10 u1 u2 u_ten; rw [times_num _ _ _ u1 u2 u_ten, val_halves] at T; show paymasterref02_Parse.l1 (k + 721 + t + 1) s (i : Int) 0 0 (hiOf v) (loOf v) = _; rw [paymasterref02_Parse.l1, if_pos zv1, show k + 721 + t = k + t + 1 + 720 from by omega, T]
  by_cases c : v * 10 < m128
  ·obtain ⟨w1, w2⟩ := u_hiOf (v * 10) zv1 c; have hx : U64 ((bt s (i : Int) - 48) % 256) := ⟨zv1, zv1⟩
   have A := refAdd_is (k + t + 671) (hiOf (v * 10)) (loOf (v * 10)) 0 ((bt s (i : Int) - 48) % 256) w1 w2 u0 hx; rw [add_num _ _ _ _ w1 w2 u0 hx, val_halves, small_val, show (bt s (i : Int) - 48) % 256 = bt s (i : Int) - 48 from by omega] at A; rw [if_pos c, Option.bind_some, if_pos rfl, if_pos zv1, show k + t + 1 + 720 = k + t + 671 + 50 from by omega]; simp only [show (bt s (i : Int) - 48) % 256 = bt s (i : Int) - 48 from by omega]; rw [A]
   by_cases c2 : v * 10 + (bt s (i : Int) - 48) < m128
   ·have ih := refParse_l1 s hs hd k t (i + 1) (v * 10 + (bt s (i : Int) - 48)) zv1 zv1 c2; rw [if_pos c2, Option.bind_some, if_pos rfl, wi _ zv1 zv1, show ((i : Int) + 1) = ((i + 1 : Nat) : Int) from by omega, show k + t + 671 + 50 = k + 721 + t from by omega, ih, hD]
   ·have := fold_ge D (v * 10 + (bt s (i : Int) - 48)) zv1 hd'; rw [if_neg c2, Option.bind_some, if_neg zv10, if_neg zv1]
  ·have := fold_ge D (v * 10 + (bt s (i : Int) - 48)) zv1 hd'; rw [if_neg c, Option.bind_some, if_neg zv10, if_neg zv1]
theorem refParse_is (s : ByteArray) (hs : s.size ≤ 1000000000) (k : Nat) : paymasterref02_Parse.f (k + 2 * s.size + 723) s = decimal_Parse.f s := by
 rw [parse_num s hs]; unfold paymasterref02_Parse.f parseOf noNum; have e : k + 2 * s.size + 723 = (k + s.size + 723) + s.size := by omega
 have A := refParse_l0 s hs (k + s.size + 722) s.size 0 zv1; rw [e]; refine A.trans ?_; rw [List.drop_zero]; have hb : (nb s).any (fun c => decide (c < 48) || decide (c > 57)) = (nb s).any bad := rfl; rw [hb]
 by_cases h1 : (nb s).any bad = true
 ·rw [if_pos h1, h1, Bool.or_true, Bool.true_or, if_pos rfl]
 ·have h1' : (nb s).any bad = false := by simpa using h1
  rw [if_neg h1, h1', Bool.or_false]
  have hd : Dig (unasc (nb s)) := by
   intro d hd; obtain ⟨c, hc, rfl⟩ := List.mem_map.1 hd; have := (List.any_eq_false.1 h1') c hc; unfold bad at this; simp at this; omega
  have nl := nb_length s; show paymasterref02_Parse.l0 (k + s.size + 722 + 1) s (s.size : Int) 0 0 = _; rw [paymasterref02_Parse.l0, if_neg zv1]
  have J : ∀ fl : Bool, paymasterref02_Parse.j1 (k + s.size + 722) s fl 0 0 = if fl = true then some (0, 0, 20) else if valD (unasc (nb s)) < m128 then some (hiOf (valD (unasc (nb s))), loOf (valD (unasc (nb s))), 0) else some (0, 0, 10) := by
   intro fl; show paymasterref02_Parse.j1 (k + s.size + 721 + 1) s fl 0 0 = _; rw [paymasterref02_Parse.j1]; cases fl with
   | true => rfl
   | false =>
    rw [if_neg zv10, if_neg zv10]; have L := refParse_l1 s hs hd k s.size 0 0 zv1 zv1 zv3t; rw [List.drop_zero] at L; rw [show k + s.size + 721 = k + 721 + s.size from by omega]; exact L
  have fin : ∀ fl : Bool, (if fl = true then some (0, 0, 20) else if valD (unasc (nb s)) < m128 then some (hiOf (valD (unasc (nb s))), loOf (valD (unasc (nb s))), (0 : Int)) else some (0, 0, 10)) = some (if fl = true then (0, 0, 20) else if valD (unasc (nb s)) < m128 then (hiOf (valD (unasc (nb s))), loOf (valD (unasc (nb s))), 0) else (0, 0, 10)) := by
   intro fl
   by_cases c : valD (unasc (nb s)) < m128 <;> cases fl <;> simp [c]
  by_cases h2 : (s.size : Int) = 0
  ·rw [if_pos h2, J, fin]; have : nb s = [] := List.eq_nil_of_length_eq_zero zv1; rw [this]; rfl
  ·rw [if_neg h2]
   have ne : (nb s).isEmpty = false := by
    cases hn : nb s with
    | nil => rw [hn] at nl; simp at nl; omega
    | cons x t => rfl
   rw [ne, Bool.false_or]
   by_cases h3 : (s.size : Int) > 1
   ·rw [if_pos h3, if_pos zv1, J, fin, decide_eq_true (show 1 < (nb s).length by omega), Bool.true_and]
    have : (bt s 0 == 48) = ((nb s).head? == some 48) := by
     have := bt_nb s 0; rw [show ((0 : Nat) : Int) = 0 from rfl] at this; rw [this]; cases hn : nb s with
     | nil => rw [hn] at nl; simp at nl; omega
     | cons x t => simp
    rw [this]
   ·rw [if_neg h3, J, fin, decide_eq_false (show ¬ 1 < (nb s).length by omega), Bool.false_and]
theorem refDParse_up (s : ByteArray) (hs : s.size ≤ 1000000000) (k : Nat) (hk : 2 * s.size + 723 ≤ k) : paymasterref02_Parse.f k s = some (parseOf (nb s)) := by
 have := refParse_is s hs (k - 2 * s.size - 723); rw [show k - 2 * s.size - 723 + 2 * s.size + 723 = k by omega] at this; rw [this, parse_num s hs]
theorem refRowParse_l0 (l : List UInt8) (hs : l.length ≤ 100000000) : ∀ (r p : List UInt8) (k : Nat), l = p ++ r → (∀ b ∈ p, b ≠ 32) → 2 * l.length + 1000 + r.length ≤ k →
  paymasterref10_Parse.l0 k (mk l) (p.length : Int) = some (zRw l)
 | [], p, k, e, hp, hk => by
  obtain ⟨j, rfl⟩ : ∃ j, k = j + 1 := ⟨k - 1, zv1⟩
  rw [List.append_nil] at e; subst e; rw [paymasterref10_Parse.l0, mk_size, if_neg zv1]; unfold zRw; rw [cutAt_clean 32 l hp]
 | b :: r, p, k, e, hp, hk => by
  obtain ⟨j, rfl⟩ : ∃ j, k = j + 1 := ⟨k - 1, zv1⟩
  have ll : l.length = p.length + (r.length + 1) := by rw [e, List.length_append, List.length_cons]
  have gb : l.getD p.length 0 = b := by rw [e, List.getD_eq_getElem?_getD, List.getElem?_append_right (Nat.le_refl _), Nat.sub_self]; rfl
  rw [List.length_cons] at hk; have w1 : wrap64 ((p.length : Int) + 1) = ((p.length + 1 : Nat) : Int) := by rw [wrapI _ zv1 zv1]; push_cast; rfl
  rw [paymasterref10_Parse.l0, mk_size, if_pos zv1, if_pos zv1, bt_mk l p.length zv1, gb]
  by_cases c : b = 32
  ·have x1 : (mk l).extract 0 p.length = mk p := by rw [extract_mk, List.drop_zero, e, List.take_left]
   have x2 : (mk l).extract (p.length + 1) l.length = mk r := by
    rw [extract_mk, List.take_length, e, show p ++ b :: r = (p ++ [b]) ++ r by simp, List.drop_left' zv10]
   rw [if_pos ((b32_is b).2 c), if_pos zv1, Int.toNat_natCast, x1, refMayId_is _ zv34 _ zv34, Option.bind_some]
   have cu : cutAt 32 l = some (p, r) := by
    rw [e, cutAt_app 32 p _ hp, cutAt, if_pos c]; simp
   unfold zRw; rw [cu]; dsimp only
   by_cases m : mayId (mk p) = true
   ·rw [if_pos m, if_pos m, w1, if_pos zv1, if_pos zv1, Int.toNat_natCast, x2, refDParse_up _ zv34 _ zv34, Option.bind_some]
    by_cases z : (parseOf (nb (mk r))).2.2 = 0
    ·rw [if_pos z, if_pos z]
    ·rw [if_neg z, if_neg z]
   ·rw [if_neg m, if_neg m]
  ·rw [if_neg (fun q => c ((b32_is b).1 q)), w1]
   have := refRowParse_l0 l hs r (p ++ [b]) j (by rw [e]; simp) (fun x hx => by
    rcases List.mem_append.1 hx with q | q
    ·exact hp x q
    ·rw [List.mem_singleton.1 q]; exact c) zv1
   rw [List.length_append, List.length_singleton] at this; exact this
theorem refRowParse_is (l : List UInt8) (hs : l.length ≤ 100000000) (k : Nat) (hk : 3 * l.length + 1000 ≤ k) : paymasterref10_Parse.f k (mk l) = some (zRw l) :=
 refRowParse_l0 l hs l [] k rfl zv10 zv1
theorem refOne_is (h : List UInt8) (hs : h.length ≤ 100000000) (k : Nat) (hk : 3 * h.length + 1000 ≤ k) : paymasterref10_One.f k (mk h) = some (oneB h) := by
 unfold paymasterref10_One.f oneB; rw [refWrong_is h zv1 k zv1, Option.bind_some]
 by_cases c : wrongOf h = 0
 ·rw [if_pos c, if_pos c, mk_size]; cases q : h with
  | nil => rfl
  | cons b l =>
   have e := bt_mk (b :: l) 0 zv10; rw [show ((0 : Nat) : Int) = 0 from rfl] at e; rw [if_neg zv27, if_pos zv10, e]; show (if ((b.toNat : Int)) = 35 then _ else _) = some (if (if b = 35 then (1 : Int) else 2) = 2 then _ else _)
   by_cases z : b = 35
   ·rw [if_pos ((b35_is b).2 z), if_pos z, if_neg zvz]
   ·rw [if_neg (fun e => z ((b35_is b).1 e)), if_neg z, if_pos rfl, ← q, refRowParse_is h hs k hk, Option.bind_some]
 ·rw [if_neg c, if_neg c]
end Go.Proofs.YtpkjpiphjdpegaaDoor.P
