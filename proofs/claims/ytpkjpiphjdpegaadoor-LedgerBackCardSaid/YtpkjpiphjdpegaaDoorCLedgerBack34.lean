/- A program of this session wrote this text out of the session's own texts. (part 34 of 46) -/
import Derived.Test.YtpkjpiphjdpegaaDoorCLedgerBack4
import Derived.Test.YtpkjpiphjdpegaaDoorCLedgerBack18
import Derived.Test.YtpkjpiphjdpegaaDoorCLedgerBack20
import Derived.Test.YtpkjpiphjdpegaaDoorCLedgerBack23
import Derived.Test.YtpkjpiphjdpegaaDoorCLedgerBack24
import Derived.Test.YtpkjpiphjdpegaaDoorCLedgerBack25
import Derived.Test.YtpkjpiphjdpegaaDoorCLedgerBack26
import Derived.Test.YtpkjpiphjdpegaaDoorCLedgerBack27
import Derived.Test.YtpkjpiphjdpegaaDoorCLedgerBack30
import Derived.Test.YtpkjpiphjdpegaaDoorCLedgerBack31
import Derived.Test.YtpkjpiphjdpegaaDoorCLedgerBack32
import Derived.Test.YtpkjpiphjdpegaaDoorCLedgerBack33
namespace Go.Proofs.YtpkjpiphjdpegaaDoor.P
open Go.RowKit Go.Proofs.YtpkjpiphjdpegaaDoorW.PrintWords Go.Proofs.YtpkjpiphjdpegaaDoorW.PrintLast Go.Proofs.YtpkjpiphjdpegaaDoorW.PrintMore
set_option linter.unusedVariables false
set_option linter.unusedSimpArgs false
def cutAt (c : UInt8) : List UInt8 → Option (List UInt8 × List UInt8)
  | [] => none
  | b :: l => if b = c then some ([], l) else (cutAt c l).map fun p => (b :: p.1, p.2)
theorem cutAt_app (c : UInt8) : ∀ (p r : List UInt8), (∀ b ∈ p, b ≠ c) → cutAt c (p ++ r) = (cutAt c r).map fun q => (p ++ q.1, q.2)
  | [], r, _ => by rw [List.nil_append]; cases cutAt c r <;> rfl
  | b :: p, r, h => by
    rw [List.cons_append, cutAt, if_neg (h b (List.mem_cons_self ..)), cutAt_app c p r fun x hx => h x (List.mem_cons_of_mem _ hx)]
    cases cutAt c r <;> rfl
theorem cutAt_some {c : UInt8} : ∀ {l h t : List UInt8}, cutAt c l = some (h, t) → l = h ++ c :: t ∧ ∀ b ∈ h, b ≠ c
  | [], h, t, e => by cases e
  | b :: l, h, t, e => by
    rw [cutAt] at e
    by_cases q : b = c
    · rw [if_pos q] at e
      cases e
      rw [q]
      exact ⟨rfl, by simp⟩
    · rw [if_neg q] at e
      cases k : cutAt c l with
      | none => rw [k] at e; cases e
      | some p =>
        rw [k] at e
        cases e
        obtain ⟨h', t'⟩ := p
        obtain ⟨e1, e2⟩ := cutAt_some k
        refine ⟨by rw [e1]; rfl, fun x hx => ?_⟩
        rcases List.mem_cons.1 hx with rfl | hx
        · exact q
        · exact e2 x hx
theorem cutAt_none {c : UInt8} : ∀ {l : List UInt8}, cutAt c l = none → ∀ b ∈ l, b ≠ c
  | [], _ => by simp
  | b :: l, e => by
    rw [cutAt] at e
    by_cases q : b = c
    · rw [if_pos q] at e; cases e
    · rw [if_neg q] at e
      cases k : cutAt c l with
      | none =>
        intro x hx
        rcases List.mem_cons.1 hx with rfl | hx
        · exact q
        · exact cutAt_none k x hx
      | some p => rw [k] at e; cases e
theorem index_clean (c : UInt8) : ∀ (l : List UInt8), (∀ b ∈ l, b ≠ c) → Lib.indexByte l c = -1
  | [], _ => rfl
  | b :: l, h => by
    have ih := index_clean c l fun x hx => h x (List.mem_cons_of_mem _ hx)
    rw [Lib.indexByte, if_neg (by simpa using h b (List.mem_cons_self ..)), ih]
    rfl
theorem index_cut (c : UInt8) : ∀ (h t : List UInt8), (∀ b ∈ h, b ≠ c) → Lib.indexByte (h ++ c :: t) c = (h.length : Int)
  | [], t, _ => by rw [List.nil_append, Lib.indexByte, if_pos (by simp)]; rfl
  | b :: h, t, k => by
    have ih := index_cut c h t fun x hx => k x (List.mem_cons_of_mem _ hx)
    rw [List.cons_append, Lib.indexByte, if_neg (by simpa using k b (List.mem_cons_self ..)), ih, if_neg (by simp), List.length_cons]
    push_cast
    rfl
theorem cut_is (l : List UInt8) (hs : l.length ≤ 1000000000) (c : UInt8) : strings_Cut.f (mk l) (⟨#[c]⟩ : ByteArray) = some (match cutAt c l with
    | none => (mk l, (⟨#[]⟩ : ByteArray), false)
    | some (h, t) => (mk h, mk t, true)) := by
  have ix : stringslite_Index.f (mk l) (⟨#[c]⟩ : ByteArray) = some (Lib.indexByte l c) := by
    unfold stringslite_Index.f
    rw [if_pos (show (⟨#[c]⟩ : ByteArray).data.toList.length = 1 from rfl), mk_list]
    rfl
  have h1 : ((⟨#[c]⟩ : ByteArray).size : Int) = 1 := rfl
  unfold strings_Cut.f stringslite_Cut.f
  rw [ix, Option.bind_some]
  cases k : cutAt c l with
  | none =>
    rw [index_clean c l (cutAt_none k), if_neg (by omega), Option.bind_some]
  | some p =>
    obtain ⟨h, t⟩ := p
    obtain ⟨e1, e2⟩ := cutAt_some k
    have ll : l.length = h.length + (t.length + 1) := by rw [e1, List.length_append, List.length_cons]
    have w1 : wrap64 ((h.length : Int) + 1) = ((h.length + 1 : Nat) : Int) := by unfold wrap64; push_cast; omega
    have ei : Lib.indexByte l c = (h.length : Int) := by rw [e1]; exact index_cut c h t e2
    rw [ei, if_pos (by omega), if_pos (by omega), mk_size, if_pos (by omega), h1, w1, if_pos (by omega), if_pos (by omega), Option.bind_some, Int.toNat_natCast, Int.toNat_natCast, extract_mk, extract_mk, List.drop_zero, List.take_length, e1]
    rw [List.take_left, show h ++ c :: t = (h ++ [c]) ++ t by simp, List.drop_left' (by simp)]
def parseRow (l : List UInt8) : ByteArray × Int × Int × Int := match cutAt 32 l with
  | none => ((⟨#[]⟩ : ByteArray), 0, 0, 100)
  | some (h, t) => if mayId (mk h) = true then (if (parseOf (nb (mk t))).2.2 = 0 then (mk h, (parseOf (nb (mk t))).1, (parseOf (nb (mk t))).2.1, 0) else ((⟨#[]⟩ : ByteArray), 0, 0, 102)) else ((⟨#[]⟩ : ByteArray), 0, 0, 101)
theorem mayId_f (s : ByteArray) (hs : s.size ≤ 1000000000) : tag_MayId.f s = some (mayId s) := if_pos hs
theorem parse_is (l : List UInt8) (hs : l.length ≤ 1000000000) : row_Parse.f (mk l) = some (parseRow l) := by
  unfold row_Parse.f parseRow
  rw [cut_is l hs, Option.bind_some]
  cases k : cutAt 32 l with
  | none =>
    dsimp only
    rw [parse_num _ (by show 0 ≤ _; omega), Option.bind_some, if_neg (by decide)]
  | some p =>
    obtain ⟨h, t⟩ := p
    obtain ⟨e1, e2⟩ := cutAt_some k
    have ll : l.length = h.length + (t.length + 1) := by rw [e1, List.length_append, List.length_cons]
    dsimp only
    rw [parse_num _ (by rw [mk_size]; omega), Option.bind_some, if_pos rfl, mayId_f _ (by rw [mk_size]; omega), Option.bind_some]
    by_cases m : mayId (mk h) = true
    · rw [if_pos m, if_pos m]
      by_cases e : (parseOf (nb (mk t))).2.2 = 0
      · rw [if_pos e, if_pos e]
      · rw [if_neg e, if_neg e]
    · rw [if_neg m, if_neg m]
def rowText (id : ByteArray) (a b : Int) : ByteArray × Int := if mayId id = true then ((id ++ (⟨#[32]⟩ : ByteArray)) ++ strOfNums (asc (dec (val a b))), 0) else ((⟨#[]⟩ : ByteArray), 101)
theorem dec_size (a b : Int) (ha : U64 a) (hb : U64 b) : (strOfNums (asc (dec (val a b)))).size ≤ 39 := by
  have v := val_range a b ha hb
  have d := (dec_facts (val a b) v.1 v.2).2.2.2
  have e : (strOfNums (asc (dec (val a b)))).size = (dec (val a b)).length := by
    rw [← nb_length, str_nb _ (asc_byte _ (dec_facts (val a b) v.1 v.2).2.1)]
    exact List.length_map ..
  omega
theorem sp_size (id : ByteArray) : (id ++ (⟨#[32]⟩ : ByteArray)).size = id.size + 1 := by rw [ByteArray.size_append]; rfl
theorem text_is (id : ByteArray) (a b : Int) (hs : id.size ≤ 1000000000) (ha : U64 a) (hb : U64 b) : row_Text.f id a b = some (rowText id a b) := by
  have d := dec_size a b ha hb
  have e := sp_size id
  unfold row_Text.f rowText
  rw [mayId_f id hs, Option.bind_some]
  by_cases m : mayId id = true
  · rw [if_pos m, if_pos m, if_pos (by omega), text_num a b ha hb, Option.bind_some, if_pos (by omega)]
  · rw [if_neg m, if_neg m]
def oneB (h : List UInt8) : ByteArray × Int × Int × Bool × Int :=
  if wrongOf h = 0 then (if kindOf h = 2 then ((parseRow h).1, (parseRow h).2.1, (parseRow h).2.2.1, ((parseRow h).2.2.2 == 0), (parseRow h).2.2.2) else ((⟨#[]⟩ : ByteArray), 0, 0, false, 0)) else ((⟨#[]⟩ : ByteArray), 0, 0, false, wrongOf h)
theorem of_is (n : Int) (h : List UInt8) (hs : h.length ≤ 1000000000) : row_Of.f n (mk h) (kindOf h) (wrongOf h) = some (oneB h) := by
  unfold row_Of.f oneB
  by_cases c : wrongOf h = 0
  · rw [if_pos c, if_pos c]
    by_cases q : kindOf h = 2
    · rw [if_pos q, if_pos q, parse_is h hs, Option.bind_some]
    · rw [if_neg q, if_neg q]
  · rw [if_neg c, if_neg c]
end Go.Proofs.YtpkjpiphjdpegaaDoor.P
namespace Go.Proofs.YtpkjpiphjdpegaaDoor.P
open Go.RowKit Go.Proofs.YtpkjpiphjdpegaaDoorW.PrintWords Go.Proofs.YtpkjpiphjdpegaaDoorW.PrintLast Go.Proofs.YtpkjpiphjdpegaaDoorW.PrintMore
set_option linter.unusedVariables false
set_option linter.unusedSimpArgs false
theorem enc_high (c : Int) (h : 45 ≤ c) (ho : oddR c = false) : ∀ x ∈ enc c, 45 ≤ x := by
  obtain ⟨n, rfl⟩ : ∃ n : Nat, c = (n : Int) := ⟨c.toNat, by omega⟩
  have hv : ¬ ((n : Int) < 0 ∨ (n : Int) > 1114111 ∨ ((n : Int) ≥ 55296 ∧ (n : Int) < 57344)) := by
    rw [odd_is] at ho; simpa using ho
  intro x hx
  by_cases c1 : n < 128
  · rw [enc_1 n c1] at hx
    simp at hx; omega
  · by_cases c2 : n < 2048
    · rw [enc_2 n (by omega) c2] at hx
      simp at hx; omega
    · by_cases c3 : n < 65536
      · rw [enc_3 n (by omega) c3 (by omega)] at hx
        simp at hx; omega
      · rw [enc_4 n (by omega) (by omega)] at hx
        simp at hx; omega
theorem nb_mem (s : ByteArray) (b : UInt8) (h : b ∈ s.data.toList) : (b.toNat : Int) ∈ nb s := List.mem_map.2 ⟨b, h, rfl⟩
theorem mayId_facts (id : ByteArray) (m : mayId id = true) : ∃ L : List Int, L.any oddR = false ∧ L.flatMap enc = nb id ∧ (∀ c ∈ L, 45 ≤ c) ∧ 1 ≤ L.length ∧ L.length ≤ 24 := by
  unfold mayId at m
  rw [Bool.and_eq_true, Bool.and_eq_true, decide_eq_true_eq, List.all_eq_true] at m
  obtain ⟨⟨v, a⟩, l⟩ := m
  obtain ⟨h1, h2, h3, h4⟩ := runes_enc id id.size 0 (by omega) v
  refine ⟨runesAt id id.size 0, h1, h2, fun c hc => ?_, l.1, l.2⟩
  have := a c hc
  unfold withinR at this
  rw [decide_eq_true_eq] at this
  omega
theorem mayId_high (id : ByteArray) (m : mayId id = true) : ∀ b ∈ id.data.toList, 45 ≤ b.toNat := by
  obtain ⟨L, h1, h2, h3, h4, h5⟩ := mayId_facts id m
  intro b hb
  have := nb_mem id b hb
  rw [← h2, List.mem_flatMap] at this
  obtain ⟨c, hc, hx⟩ := this
  have ho : oddR c = false := by
    have := List.any_eq_false.1 h1 c hc
    simpa using this
  have := enc_high c (h3 c hc) ho _ hx
  omega
theorem mayId_one (id : ByteArray) (m : mayId id = true) : 1 ≤ id.data.toList.length ∧ id.size ≤ 96 := by
  obtain ⟨L, h1, h2, h3, h4, h5⟩ := mayId_facts id m
  have hl := nb_length id
  have e : id.data.toList.length = id.size := Array.length_toList
  have f4 : ∀ L : List Int, (L.flatMap enc).length ≤ 4 * L.length := by
    intro L
    induction L with
    | nil => simp
    | cons c L ih =>
      have := enc_len c
      rw [List.flatMap_cons, List.length_append, List.length_cons]; omega
  have f1 : ∀ L : List Int, L.any oddR = false → (∀ c ∈ L, 45 ≤ c) → L.length ≤ (L.flatMap enc).length := by
    intro L
    induction L with
    | nil => simp
    | cons c L ih =>
      intro ho hc
      rw [List.any_cons, Bool.or_eq_false_iff] at ho
      have h45 := hc c (List.mem_cons_self ..)
      have := ih ho.2 fun x hx => hc x (List.mem_cons_of_mem _ hx)
      have n1 := (enc_ne c.toNat (by rw [show ((c.toNat : Nat) : Int) = c by omega]; exact ho.1)).1
      rw [show ((c.toNat : Nat) : Int) = c by omega] at n1
      rw [List.flatMap_cons, List.length_append, List.length_cons]; omega
  have a := f4 L
  have b := f1 L h1 h3
  rw [h2, hl] at a b
  omega
def digs (a b : Int) : List Int := asc (dec (val a b))
theorem digs_is (a b : Int) (ha : U64 a) (hb : U64 b) : (∀ x ∈ digs a b, 48 ≤ x ∧ x ≤ 57) ∧ (digs a b).length ≤ 39 ∧ 1 ≤ (digs a b).length := by
  have v := val_range a b ha hb
  obtain ⟨d1, d2, d3, d4⟩ := dec_facts (val a b) v.1 v.2
  refine ⟨fun x hx => ?_, ?_, ?_⟩
  · obtain ⟨d, hd, rfl⟩ := List.mem_map.1 hx
    have := d2 d hd
    omega
  · unfold digs asc; rw [List.length_map]; exact d4
  · unfold digs asc; rw [List.length_map]; exact d3
theorem low_enc : ∀ l : List Int, (∀ x ∈ l, 0 ≤ x ∧ x < 128) → l.flatMap enc = l
  | [], _ => rfl
  | x :: l, h => by
    have hx := h x (List.mem_cons_self ..)
    have e := enc_1 x.toNat (by omega)
    rw [show ((x.toNat : Nat) : Int) = x by omega] at e
    rw [List.flatMap_cons, e, low_enc l fun y hy => h y (List.mem_cons_of_mem _ hy)]
    rfl
theorem low_odd (l : List Int) (h : ∀ x ∈ l, 0 ≤ x ∧ x < 128) : l.any oddR = false := by
  rw [List.any_eq_false]
  intro x hx
  have := h x hx
  rw [odd_is, decide_eq_true_eq]
  omega
def lineB (id : ByteArray) (a b : Int) : ByteArray := (id ++ (⟨#[32]⟩ : ByteArray)) ++ strOfNums (asc (dec (val a b)))
theorem digs_byte (a b : Int) (ha : U64 a) (hb : U64 b) : ∀ x ∈ asc (dec (val a b)), isByte x := by
  have v := val_range a b ha hb
  exact asc_byte _ (dec_facts (val a b) v.1 v.2).2.1
theorem nb_line (id : ByteArray) (a b : Int) (ha : U64 a) (hb : U64 b) : nb (lineB id a b) = nb id ++ 32 :: digs a b := by
  unfold lineB
  rw [nb_append, nb_append, str_nb _ (digs_byte a b ha hb), List.append_assoc]
  rfl
theorem line_list (id : ByteArray) (a b : Int) : (lineB id a b).data.toList = id.data.toList ++ 32 :: (strOfNums (digs a b)).data.toList := by
  unfold lineB digs
  rw [ByteArray.data_append, ByteArray.data_append, Array.toList_append, Array.toList_append, List.append_assoc]
  rfl
theorem line_runes (id : ByteArray) (a b : Int) (m : mayId id = true) (ha : U64 a) (hb : U64 b) :
    Lib.validD (lineB id a b).data.toList = true ∧ (runesAt (lineB id a b) (lineB id a b).size 0).length ≤ 64 := by
  obtain ⟨L, h1, h2, h3, h4, h5⟩ := mayId_facts id m
  obtain ⟨d1, d2, d3⟩ := digs_is a b ha hb
  have lo : ∀ x ∈ 32 :: digs a b, 0 ≤ x ∧ x < 128 := by
    intro x hx
    rcases List.mem_cons.1 hx with rfl | hx
    · omega
    · have := d1 x hx; omega
  have e : (L ++ 32 :: digs a b).flatMap enc = nb (lineB id a b) := by
    rw [List.flatMap_append, h2, low_enc _ lo, nb_line id a b ha hb]
  have o : (L ++ 32 :: digs a b).any oddR = false := by rw [List.any_append, h1, low_odd _ lo]; rfl
  have r := enc_runes (L ++ 32 :: digs a b) [] (lineB id a b).size (by simp) o (by rw [e, nb_length]; omega)
  rw [List.nil_append, e, nb_str, List.length_nil, List.drop_zero] at r
  refine ⟨r.2, ?_⟩
  rw [r.1, List.length_append, List.length_cons]
  omega
theorem line_size (id : ByteArray) (a b : Int) (m : mayId id = true) (ha : U64 a) (hb : U64 b) : (lineB id a b).size ≤ 136 := by
  have h := nb_line id a b ha hb
  have l := congrArg List.length h
  obtain ⟨d1, d2, d3⟩ := digs_is a b ha hb
  have := (mayId_one id m).2
  rw [List.length_append, List.length_cons, nb_length, nb_length] at l
  omega
theorem dig_bytes (a b : Int) (ha : U64 a) (hb : U64 b) : ∀ x ∈ (strOfNums (digs a b)).data.toList, 48 ≤ x.toNat ∧ x.toNat ≤ 57 := by
  intro x hx
  have := nb_mem _ x hx
  rw [digs, str_nb _ (digs_byte a b ha hb)] at this
  have := (digs_is a b ha hb).1 _ this
  omega
theorem line_bytes (id : ByteArray) (a b : Int) (m : mayId id = true) (ha : U64 a) (hb : U64 b) : ∀ x ∈ (lineB id a b).data.toList, x ≠ 10 := by
  intro x hx e
  subst e
  rw [line_list] at hx
  rcases List.mem_append.1 hx with h | h
  · have := mayId_high id m _ h
    exact absurd this (by decide)
  · rcases List.mem_cons.1 h with h | h
    · exact absurd h (by decide)
    · have := (dig_bytes a b ha hb _ h).1
      exact absurd this (by decide)
theorem line_cut (id : ByteArray) (a b : Int) (m : mayId id = true) (ha : U64 a) (hb : U64 b) : cutAt 32 (lineB id a b).data.toList = some (id.data.toList, (strOfNums (digs a b)).data.toList) := by
  have nx : ∀ x ∈ id.data.toList, x ≠ 32 := by
    intro x hx e
    subst e
    exact absurd (mayId_high id m _ hx) (by decide)
  rw [line_list, cutAt_app 32 _ _ nx, cutAt, if_pos rfl]
  simp
theorem line_parse (id : ByteArray) (a b : Int) (m : mayId id = true) (ha : U64 a) (hb : U64 b) : parseRow (lineB id a b).data.toList = (id, a, b, 0) := by
  have v := val_range a b ha hb
  unfold parseRow
  rw [line_cut id a b m ha hb]
  dsimp only
  rw [mk_of, mk_of, if_pos m, digs, str_nb _ (digs_byte a b ha hb), parse_text _ v.1 v.2, if_pos rfl, hiOf_val a b hb, loOf_val a b hb]
theorem line_kind (id : ByteArray) (a b : Int) (m : mayId id = true) : kindOf (lineB id a b).data.toList = 2 := by
  have h1 := (mayId_one id m).1
  have hh := mayId_high id m
  rw [line_list]
  cases q : id.data.toList with
  | nil => rw [q] at h1; simp at h1
  | cons x l =>
    have : x ≠ 35 := by
      intro e
      subst e
      exact absurd (hh 35 (by rw [q]; exact List.mem_cons_self ..)) (by decide)
    show (if x = 35 then (1 : Int) else 2) = 2
    rw [if_neg this]
theorem line_wrong (id : ByteArray) (a b : Int) (m : mayId id = true) (ha : U64 a) (hb : U64 b) : wrongOf (lineB id a b).data.toList = 0 := by
  obtain ⟨v, r⟩ := line_runes id a b m ha hb
  have e : (lineB id a b).data.toList.length = (lineB id a b).size := Array.length_toList
  unfold wrongOf
  rw [if_pos v, mk_of, e, if_neg (by omega)]
theorem line_one (id : ByteArray) (a b : Int) (m : mayId id = true) (ha : U64 a) (hb : U64 b) : oneB (lineB id a b).data.toList = (id, a, b, true, 0) := by
  unfold oneB
  rw [if_pos (line_wrong id a b m ha hb), if_pos (line_kind id a b m), line_parse id a b m ha hb]
  rfl
theorem parse_line (l : List UInt8) (h : (parseRow l).2.2.2 = 0) : rowText (parseRow l).1 (parseRow l).2.1 (parseRow l).2.2.1 = (mk l, 0) ∧ U64 (parseRow l).2.1 ∧ U64 (parseRow l).2.2.1 ∧ mayId (parseRow l).1 = true := by
  unfold parseRow at h ⊢
  cases k : cutAt 32 l with
  | none => rw [k] at h; exact absurd h (by decide)
  | some p =>
    obtain ⟨x, t⟩ := p
    rw [k] at h
    dsimp only at h ⊢
    by_cases m : mayId (mk x) = true
    · rw [if_pos m] at h ⊢
      by_cases z : (parseOf (nb (mk t))).2.2 = 0
      · rw [if_pos z]
        dsimp only
        obtain ⟨e1, e2⟩ := cutAt_some k
        have nn : noNum (nb (mk t)) = false := by
          cases q : noNum (nb (mk t)) with
          | false => rfl
          | true => unfold parseOf at z; rw [if_pos q] at z; exact absurd z (by decide)
        have lt : valD (unasc (nb (mk t))) < m128 := by
          by_cases q : valD (unasc (nb (mk t))) < m128
          · exact q
          · unfold parseOf at z; rw [if_neg (by rw [nn]; decide), if_neg q] at z; exact absurd z (by decide)
        have ge := parse_range _ nn
        have pe : parseOf (nb (mk t)) = (hiOf (valD (unasc (nb (mk t)))), loOf (valD (unasc (nb (mk t)))), 0) := by
          unfold parseOf
          rw [if_neg (by rw [nn]; decide), if_pos lt]
        rw [pe]
        dsimp only
        have vv : val (hiOf (valD (unasc (nb (mk t))))) (loOf (valD (unasc (nb (mk t))))) = valD (unasc (nb (mk t))) := by
          unfold val hiOf loOf
          omega
        refine ⟨?_, ?_, ?_, m⟩
        · unfold rowText
          rw [if_pos m, vv, text_parse _ nn lt, nb_str, e1]
          congr 1
          apply ByteArray.ext
          apply Array.toList_inj.1
          rw [ByteArray.data_append, ByteArray.data_append, Array.toList_append, Array.toList_append, mk_list, mk_list, mk_list, List.append_assoc]
          rfl
        · unfold U64 hiOf
          unfold m128 at lt
          constructor <;> omega
        · unfold U64 loOf
          constructor <;> omega
      · rw [if_neg z] at h; exact absurd h (by decide)
    · rw [if_neg m] at h; exact absurd h (by decide)
theorem parse_bad (l : List UInt8) (h : (parseRow l).2.2.2 ≠ 0) : parseRow l = ((⟨#[]⟩ : ByteArray), 0, 0, (parseRow l).2.2.2) ∧ ((parseRow l).2.2.2 = 100 ∨ (parseRow l).2.2.2 = 101 ∨ (parseRow l).2.2.2 = 102) := by
  unfold parseRow at h ⊢
  cases k : cutAt 32 l with
  | none => exact ⟨rfl, .inl rfl⟩
  | some p =>
    obtain ⟨x, t⟩ := p
    rw [k] at h
    dsimp only at h ⊢
    by_cases m : mayId (mk x) = true
    · rw [if_pos m] at h ⊢
      by_cases z : (parseOf (nb (mk t))).2.2 = 0
      · rw [if_pos z] at h; exact absurd rfl h
      · rw [if_neg z]; exact ⟨rfl, .inr (.inr rfl)⟩
    · rw [if_neg m]; exact ⟨rfl, .inr (.inl rfl)⟩
end Go.Proofs.YtpkjpiphjdpegaaDoor.P
namespace Go.Proofs.YtpkjpiphjdpegaaDoor.P
open Go.RowKit Go.Proofs.YtpkjpiphjdpegaaDoorW.PrintWords Go.Proofs.YtpkjpiphjdpegaaDoorW.PrintLast Go.Proofs.YtpkjpiphjdpegaaDoorW.PrintMore
attribute [local go_sem] max2_int min2_int max_two min_two max_three min_three max_four min_four
set_option linter.unusedVariables false
set_option linter.unusedSimpArgs false
attribute [local go_sem high] eqA44
mutual
def row_Write.j0 : Nat → List (S44) → ByteArray → List ByteArray → Option (ByteArray × Int)
  | 0, _, _, _ => none
  | k + 1, x0, x1, x6 => row_Write.l0 k x1 x6 x0 (x0.length : Int) 0
def row_Write.l0 : Nat → ByteArray → List ByteArray → List (S44) → Int → Int → Option (ByteArray × Int)
  | 0, _, _, _, _, _ => none
  | k + 1, x1, x6, x21, x22, x23 => if x23 < x22 then (if 0 ≤ x23 then (if x23 < (x21.length : Int) then ((row_Text.f ((rd_T44 x21 x23).f0) ((rd_T44 x21 x23).f1.f0) ((rd_T44 x21 x23).f1.f1)).bind fun bt683 => (if bt683.2 = 0 then (if x6.length < 8796093022208 then (row_Write.l0 k x1 (x6 ++ [bt683.1]) x21 x22 (wrap64 (x23 + 1))) else (none)) else (some ((⟨#[]⟩ : ByteArray), bt683.2)))) else (none)) else (none)) else (if 2 + x1.size ≤ 9223372036854775807 then ((lines_All.f ((⟨#[35, 32]⟩ : ByteArray) ++ x1)).bind fun t688 => (if (t688.length : Int) > 1 then (some ((⟨#[]⟩ : ByteArray), 91)) else (if 0 < (t688.length : Int) then (if ((rd_T56 t688 0).f3) = 0 then (if x6.length < 8796093022208 then ((lines_Join.f (x6 ++ [(⟨#[]⟩ : ByteArray)])).bind fun bt695 => (some (bt695.1, 0))) else (none)) else (some ((⟨#[]⟩ : ByteArray), 91))) else (none)))) else (none))
end
def row_Write.f (k : Nat) (l0 : List (S44)) (a1 : ByteArray) : Option (ByteArray × Int) := if a1.toList = ([] : List UInt8) then (row_Write.j0 k l0 a1 ([] : List ByteArray)) else (if 2 + a1.size ≤ 9223372036854775807 then (if ([] : List ByteArray).length < 8796093022208 then (row_Write.j0 k l0 a1 (([] : List ByteArray) ++ [(⟨#[35, 32]⟩ : ByteArray) ++ a1])) else (none)) else (none))
set_option maxHeartbeats 8000000 in
set_option maxRecDepth 100000 in
theorem row_Write.calls (k : Nat) (A0 : Option Addr) (c0 : Nat) (l0 : List (S44)) (a1 : ByteArray) (r1 : ByteArray) (r2 : Int) (w : World) (hr0 : Kd.C k44 w A0 l0.length l0) (hc0 : l0.length ≤ c0) (hG : GT w) (h : row_Write.f k l0 a1 = some (r1, r2)) :
    Calls Tryd.prog 52 #[.slice A0 l0.length c0, .string a1] w fun e w' => e = .returned (.tuple #[.string r1, .int .i64 r2]) ∧ Below w.heap.size w w' := by
  have hu44 := Tryd.underlying44
  have HR0 := Aside0.mk hr0
  have HC0 := Aside0.mk hc0
  clear hr0 hc0
  have HB := Aside0.mk (Below.refl w.heap.size w)
  have H : (if a1.toList = ([] : List UInt8) then (row_Write.j0 k l0 a1 ([] : List ByteArray)) else (if 2 + a1.size ≤ 9223372036854775807 then (if ([] : List ByteArray).length < 8796093022208 then (row_Write.j0 k l0 a1 (([] : List ByteArray) ++ [(⟨#[35, 32]⟩ : ByteArray) ++ a1])) else (none)) else (none))) = some (r1, r2) := h
  clear h
  have HC3 := Aside0.mk H
  clear H
  go_enter Tryd.func52, Tryd.ntmps52
  go_upto_if 15 with (fail)
  go_cut [6] (fun v6 wc => ∃ (kq : Nat) (x6_2 : List ByteArray), Aside0 (row_Write.j0 kq l0 a1 x6_2 = some (r1, r2)) ∧ Aside0 (kq ≤ k) ∧ Aside0 (Kd.R Kd.string 9 wc w.heap.size (fun _ => True) v6 x6_2) ∧ Aside0 (Below w.heap.size w wc))
  case first =>
    have H := HC3.out
    clear HC3
    by_cases c4 : a1.toList = ([] : List UInt8)
    · rw [if_pos c4] at H
      have c4b0 : (a1.toList == ([] : List UInt8)) = true := beq_iff_eq.mpr c4
      try have c4b9 : (a1.toList.isEmpty) = true := by have e_ := c4b0; simp only [show ∀ l_ : List UInt8, (l_ == []) = l_.isEmpty from fun l_ => by cases l_ <;> rfl] at e_; exact e_
      have c4b1 : (a1.toList != ([] : List UInt8)) = false := bne_eq_false_iff_eq.mpr c4
      clear c4
      (first | rw [c4b0] | rw [c4b9] | (simp only [i64_w, i32_w]; rw [c4b0]) | skip)
      have H' := Aside0.mk H
      clear H
      go_wp2
      go_meet
      case rel => exact ⟨_, (([] : List ByteArray)), H', ⟨by first | omega | exact Nat.le_refl _⟩, ⟨by first | exact Kd.R_nil _ _ _ _ _ | exact Kd.N_nil _ _ _ _ _ | exact Kd.V_nil _ _ _ _ _ | exact Kd.Q_nil _ _ _ _ _ | exact Kd.S_nil _ _ _ _ _⟩, ⟨by repeat (first | (with_reducible first | exact HB.out | apply below_alloc | apply pw_below_drewN | apply below_drew1) | exact HB.out)⟩⟩
    · rw [if_neg c4] at H
      have c4b0 : (a1.toList == ([] : List UInt8)) = false := beq_eq_false_iff_ne.mpr c4
      try have c4b9 : (a1.toList.isEmpty) = false := by have e_ := c4b0; simp only [show ∀ l_ : List UInt8, (l_ == []) = l_.isEmpty from fun l_ => by cases l_ <;> rfl] at e_; exact e_
      have c4b1 : (a1.toList != ([] : List UInt8)) = true := bne_iff_ne.mpr c4
      (first | rw [c4b0] | rw [c4b9] | (simp only [i64_w, i32_w]; rw [c4b0]) | skip)
      by_cases c5 : 2 + a1.size ≤ 9223372036854775807
      · rw [if_pos c5] at H
        have c5b0 := eq_true c5
        have c5b1 : decide (2 + a1.size ≤ 9223372036854775807) = true := decide_eq_true c5
        try have c5b2 : (9223372036854775807 < 2 + a1.size) = False := eq_false (Nat.not_lt.2 c5)
        by_cases c6 : ([] : List ByteArray).length < 8796093022208
        · rw [if_pos c6] at H
          have LMc6 := Aside0.mk c6
          clear c6
          obtain ⟨y678, hy678⟩ : ∃ y_ : List ByteArray, y_ = (([] : List ByteArray) ++ [(⟨#[35, 32]⟩ : ByteArray) ++ a1]) := ⟨_, rfl⟩
          replace H : (row_Write.j0 k l0 a1 y678) = some (r1, r2) := by first | (rw [hy678]; with_reducible exact H) | (have H2_ := (Option.bind_some _ _).symm.trans H; rw [hy678]; with_reducible exact H2_) | (have H2_ := (Option.bind_some _ _).symm.trans H; with_reducible exact H2_) | with_reducible exact H | (rw [hy678]; exact H) | exact H
          have Ny678 := Aside0.mk hy678
          clear hy678
          have H' := Aside0.mk H
          clear H
          go_wp2_with (first | ((with_reducible refine gate_builtin (b := .append) (xs := #[.tmp 16, .tmp 19]) rfl ?_); at_builtin; refine Kd.R_append Kd.string (w0 := w) w.heap.size rfl (.tmp 16) (.tmp 19) 51 9 (.string ⟨#[]⟩) 16 rfl Tryd.underlying51 info9 rfl (by decide) (by omega) (.slice none 0 0) ([] : List ByteArray) ((⟨#[35, 32]⟩ : ByteArray) ++ a1) [.string ((⟨#[35, 32]⟩ : ByteArray) ++ a1)] (fun _ => True) (fun _ => False) rfl rfl ?aP (fun _ hk => hk.elim) ?aF ?aO ?aB ?aS ?aL ?_; (case aP => exact rfl); (case aB => exact (by repeat (first | (with_reducible first | exact HB.out | apply below_alloc | apply pw_below_drewN | apply below_drew1) | exact HB.out))); (case aF => exact (fun _ _ => trivial)); (case aO => exact ((Kd.R_nil _ _ _ _ (fun _ => True)))); (case aS => exact (below_size (by repeat (first | (with_reducible first | exact HB.out | apply below_alloc | apply pw_below_drewN | apply below_drew1) | exact HB.out)))); (case aL => have := LMc6.out; omega); intro v679 w7 ho hb hg hat; rw [← Ny678.out] at ho; have n0_ := Aside0.mk (hb); have n1_ := Aside0.mk (ho); clear HB; have HB := n0_; have HO680 := n1_; clear n0_ n1_; clear ho hb hg hat))
          go_meet
          case rel => exact ⟨_, (y678), H', ⟨by first | omega | exact Nat.le_refl _⟩, ⟨by (with_reducible repeat (first | apply Kd.R_alloc | apply Kd.R_drewN | apply Kd.R_drew)); exact HO680.out⟩, ⟨by repeat (first | (with_reducible first | exact HB.out | apply below_alloc | apply pw_below_drewN | apply below_drew1) | exact HB.out)⟩⟩
        · rw [if_neg c6] at H
          exact absurd H (by simp)
      · rw [if_neg c5] at H
        exact absurd H (by simp)
  case rest =>
    clear HC3
    try clear p2
    try clear c4
    try clear c4b0
    try clear c4b1
    try clear c5
    try clear c5b0
    try clear c5b1
    try clear c5b2
    try clear c6
    obtain ⟨kq, x6_2, HA, HJ2, HO_6, HB⟩ := hcut
    cases kq with
    | zero => exact absurd HA.out (by simp [row_Write.j0])
    | succ kj2 =>
      have H := HA.out
      clear HA
      simp only [row_Write.j0] at H
      have H' := Aside0.mk H
      clear H
      go_wp2
      go_loopg [6, 23] kj2 (fun kq v6 v23 w' => ∃ (x6_2 : List ByteArray) (x23_2 : Int), v23 = .int .i64 x23_2 ∧ Aside0 (row_Write.l0 kq a1 x6_2 l0 (l0.length : Int) x23_2 = some (r1, r2)) ∧ Aside0 (kq ≤ kj2) ∧ Aside0 (Kd.R Kd.string 9 w' w.heap.size (fun _ => True) v6 x6_2) ∧ Aside0 (Below w.heap.size w w'))
      case atStart => exact ⟨(x6_2), (0), (by first | rfl | (simp; done) | (simp [*]; done)), H', ⟨Nat.le_refl _⟩, ⟨by (with_reducible repeat (first | apply Kd.R_alloc | apply Kd.R_drewN | apply Kd.R_drew)); exact HO_6.out⟩, ⟨by repeat (first | (with_reducible first | exact HB.out | apply below_alloc | apply pw_below_drewN | apply below_drew1) | exact HB.out)⟩⟩
      case round =>
        clear H'
        try clear p2
        try clear c4
        try clear c4b0
        try clear c4b1
        try clear c5
        try clear c5b0
        try clear c5b1
        try clear c5b2
        try clear c6
        try clear p2
        obtain ⟨x6_2, x23_2, rfl, HA, HK2, HO_6, HB⟩ := hrel
        cases gk with
        | zero => exact absurd HA.out (by simp [row_Write.l0])
        | succ k2 =>
          have H := HA.out
          clear HA
          simp only [row_Write.l0] at H
          by_cases c8 : x23_2 < (l0.length : Int)
          · rw [if_pos c8] at H
            have c8b0 : decide (x23_2 < (l0.length : Int)) = true := decide_eq_true c8
            clear c8
            by_cases c9 : 0 ≤ x23_2
            · rw [if_pos c9] at H
              have c9b0 : decide (0 ≤ x23_2) = true := decide_eq_true c9
              clear c9
              by_cases c10 : x23_2 < (l0.length : Int)
              · rw [if_pos c10] at H
                have c10b0 : decide (x23_2 < (l0.length : Int)) = true := decide_eq_true c10
                clear c10
                replace H := Option.bind_eq_some_iff.mp H
                obtain ⟨⟨t683, t684⟩, A110, H⟩ := H
                replace H : (if t684 = 0 then (if x6_2.length < 8796093022208 then (row_Write.l0 k2 a1 (x6_2 ++ [t683]) l0 (l0.length : Int) (wrap64 (x23_2 + 1))) else (none)) else (some ((⟨#[]⟩ : ByteArray), t684))) = some (r1, r2) := H
                have A11 := Aside0.mk A110
                clear A110
                by_cases c12 : t684 = 0
                · rw [if_pos c12] at H
                  have c12b0 : (t684 == 0) = true := beq_iff_eq.mpr c12
                  have c12b1 : (t684 != 0) = false := bne_eq_false_iff_eq.mpr c12
                  clear c12
                  by_cases c13 : x6_2.length < 8796093022208
                  · rw [if_pos c13] at H
                    have LMc13 := Aside0.mk c13
                    clear c13
                    obtain ⟨y685, hy685⟩ : ∃ y_ : List ByteArray, y_ = (x6_2 ++ [t683]) := ⟨_, rfl⟩
                    replace H : (row_Write.l0 k2 a1 y685 l0 (l0.length : Int) (wrap64 (x23_2 + 1))) = some (r1, r2) := by first | (rw [hy685]; with_reducible exact H) | (have H2_ := (Option.bind_some _ _).symm.trans H; rw [hy685]; with_reducible exact H2_) | (have H2_ := (Option.bind_some _ _).symm.trans H; with_reducible exact H2_) | with_reducible exact H | (rw [hy685]; exact H) | exact H
                    have Ny685 := Aside0.mk hy685
                    clear hy685
                    have H' := Aside0.mk H
                    clear H
                    have p681 : 0 ≤ (x23_2 : Int) := of_decide_eq_true (by first | (with_reducible assumption) | assumption)
                    have q681 : x23_2 < (l0.length : Int) := of_decide_eq_true (by first | (with_reducible assumption) | assumption)
                    obtain ⟨ad681, e681, hx681_0, hx681_1, hx681_2⟩ := at_T44 HR0.out x23_2 p681 q681
                    cases e681
                    replace hx681_0 := (HB.out.cell (World.block_lt_of_cell? w _ hx681_0)).trans hx681_0
                    replace hx681_1 := (HB.out.cell (World.block_lt_of_cell? w _ hx681_1)).trans hx681_1
                    replace hx681_2 := (HB.out.cell (World.block_lt_of_cell? w _ hx681_2)).trans hx681_2
                    replace p681 := eq_true p681
                    replace q681 := eq_true q681
                    go_wp2_with (first | ((with_reducible refine gate_dst (N := 8) rfl ?_); refine box_event ?hg (N := 8) ?hd (cs := #[.string (⟨#[]⟩ : ByteArray), .int .u64 0, .int .u64 0]) (t := 44) ?hr ?_; (case hd => rfl); (case hg => rfl); (case hr => first | (go_simp; done) | (go_simp; rfl)); intro gb682 hg w14 hbox hb; have n0_ := Aside0.mk (Kd.R_below (by (with_reducible repeat (first | apply Kd.R_alloc | apply Kd.R_drewN | apply Kd.R_drew)); exact HO_6.out) hb); have n1_ := Aside0.mk (below_step (by repeat (first | (with_reducible first | exact HB.out | apply below_alloc | apply pw_below_drewN | apply below_drew1) | exact HB.out)) hb); have n2_ := Aside0.mk (hbox); have n3_ := Aside0.mk ((by rw [hg]; exact (below_size (by repeat (first | (with_reducible first | exact HB.out | apply below_alloc | apply pw_below_drewN | apply below_drew1) | exact HB.out))) : w.heap.size ≤ gb682)); have n4_ := Aside0.mk ((by rw [hg]; exact (below_size (by repeat (first | (with_reducible first | exact HB.out | apply below_alloc | apply pw_below_drewN | apply below_drew1) | exact HB.out))) : w.heap.size ≤ gb682)); clear HO_6; clear HB; have HO_6 := n0_; have HB := n1_; have BK682 := n2_; have GW682 := n3_; have GE682 := n4_; clear n0_ n1_ n2_ n3_ n4_; clear hb hbox hg; have hcz15_0 : w14.cell? ⟨gb682, 0, none⟩ = some (.string (⟨#[]⟩ : ByteArray)) := (blk_cell BK682.out 0).trans rfl; have hcz15_1 : w14.cell? ⟨gb682, 1, none⟩ = some (.int .u64 0) := (blk_cell BK682.out 1).trans rfl; have hcz15_2 : w14.cell? ⟨gb682, 2, none⟩ = some (.int .u64 0) := (blk_cell BK682.out 2).trans rfl; have hfz15_0 := blk_frozen BK682.out 0; have hfz15_1 := blk_frozen BK682.out 1; have hfz15_2 := blk_frozen BK682.out 2) | ((with_reducible refine gate_callee (f := 48) rfl ?_); refine goesL_ (some 29) rfl rfl Tryd.func48 (by kernel_rfl) rfl #[.agg #[.string ((rd_T44 l0 x23_2).f0), .int .u64 ((rd_T44 l0 x23_2).f1.f0), .int .u64 ((rd_T44 l0 x23_2).f1.f1)]] rfl (by (try simp only [List.map_toArray, List.map_cons, List.map_nil]); first | done | rfl | (simp only [List.length_drop, List.length_take]; rfl)) ?_; (with_reducible refine (row_Text.calls ((rd_T44 l0 x23_2).f0) ((rd_T44 l0 x23_2).f1.f0) ((rd_T44 l0 x23_2).f1.f1) t683 t684 _ ?side1 A11.out).mono ?_); (case side1 => exact gt_below hG (by repeat (first | (with_reducible first | exact HB.out | apply below_alloc | apply pw_below_drewN | apply below_drew1 | refine below_set ?_ GE682.out) | exact HB.out))); rintro e w16 ⟨rfl, hb⟩; refine ⟨_, rfl, ?_⟩; have n0_ := Aside0.mk (Kd.R_below (by (with_reducible repeat (first | apply Kd.R_alloc | apply Kd.R_drewN | apply Kd.R_drew)); exact (Kd.R_mono (Kd.R_far (p := ⟨gb682, 2, none⟩) (Kd.R_far (p := ⟨gb682, 1, none⟩) (Kd.R_far (p := ⟨gb682, 0, none⟩) (Kd.R_types HO_6.out BK682.out (by decide)) (fun _ hk => hk.2) (.string ((rd_T44 l0 x23_2).f0))) (fun _ hk => hk.2) (.int .u64 ((rd_T44 l0 x23_2).f1.f0))) (fun _ hk => hk.2) (.int .u64 ((rd_T44 l0 x23_2).f1.f1))) (fun _ h_ => h_.1))) hb); have n1_ := Aside0.mk (blk_below (g := gb682) (o := .cells #[.string ((rd_T44 l0 x23_2).f0), .int .u64 ((rd_T44 l0 x23_2).f1.f0), .int .u64 ((rd_T44 l0 x23_2).f1.f1)] 44 (0, 0)) (by (with_reducible repeat (first | refine blk_drewN ?_ _ | refine blk_drew ?_ | refine blk_alloc ?_ _)); refine blk_put (cs := #[.string ((rd_T44 l0 x23_2).f0), .int .u64 ((rd_T44 l0 x23_2).f1.f0), .int .u64 0]) ?_ 2 _ rfl; (with_reducible repeat (first | refine blk_drewN ?_ _ | refine blk_drew ?_ | refine blk_alloc ?_ _)); refine blk_put (cs := #[.string ((rd_T44 l0 x23_2).f0), .int .u64 0, .int .u64 0]) ?_ 1 _ rfl; (with_reducible repeat (first | refine blk_drewN ?_ _ | refine blk_drew ?_ | refine blk_alloc ?_ _)); refine blk_put (cs := #[.string (⟨#[]⟩ : ByteArray), .int .u64 0, .int .u64 0]) ?_ 0 _ rfl; (with_reducible repeat (first | refine blk_drewN ?_ _ | refine blk_drew ?_ | refine blk_alloc ?_ _)); exact BK682.out) hb); have n2_ := Aside0.mk (below_step (by repeat (first | (with_reducible first | exact HB.out | apply below_alloc | apply pw_below_drewN | apply below_drew1 | refine below_set ?_ GE682.out) | exact HB.out)) hb); clear HO_6; clear BK682; clear HB; have HO_6 := n0_; have BK682 := n1_; have HB := n2_; clear n0_ n1_ n2_; (try clear hb); (try clear hb2); (try clear hk); (try clear hi)) | ((with_reducible refine gate_builtin (b := .append) (xs := #[.tmp 35, .tmp 37]) rfl ?_); at_builtin; refine Kd.R_append Kd.string (w0 := w) w.heap.size rfl (.tmp 35) (.tmp 37) 51 9 (.string ⟨#[]⟩) 16 rfl Tryd.underlying51 info9 rfl (by decide) (by omega) u6 x6_2 t683 [.string t683] (fun _ => True) (fun _ => False) rfl rfl ?aP (fun _ hk => hk.elim) ?aF ?aO ?aB ?aS ?aL ?_; (case aP => exact rfl); (case aB => exact (by repeat (first | (with_reducible first | exact HB.out | apply below_alloc | apply pw_below_drewN | apply below_drew1 | refine below_set ?_ GE682.out) | exact HB.out))); (case aF => exact (fun _ _ => trivial)); (case aO => exact (by (with_reducible repeat (first | apply Kd.R_alloc | apply Kd.R_drewN | apply Kd.R_drew)); exact HO_6.out)); (case aS => exact (below_size (by repeat (first | (with_reducible first | exact HB.out | apply below_alloc | apply pw_below_drewN | apply below_drew1 | refine below_set ?_ GE682.out) | exact HB.out)))); (case aL => have := LMc13.out; omega); intro v686 w17 ho hb hg hat; rw [← Ny685.out] at ho; have n0_ := Aside0.mk (blk_grown (g := gb682) (o := .cells #[.string ((rd_T44 l0 x23_2).f0), .int .u64 ((rd_T44 l0 x23_2).f1.f0), .int .u64 ((rd_T44 l0 x23_2).f1.f1)] 44 (0, 0)) (by (with_reducible repeat (first | refine blk_drewN ?_ _ | refine blk_drew ?_ | refine blk_alloc ?_ _)); exact BK682.out) hg (Kd.R_ne HO_6.out BK682.out (by decide))); have n1_ := Aside0.mk (hb); have n2_ := Aside0.mk (ho); clear BK682; clear HB; clear HO_6; have BK682 := n0_; have HB := n1_; have HO687 := n2_; clear n0_ n1_ n2_; clear ho hb hg hat))
                    go_roundg k2
                    case measure => have := HJ2.out; have := HK2.out; omega
                    case rel => exact ⟨(y685), (wrap64 (x23_2 + 1)), (by first | rfl | (simp; done) | (simp [*]; done)), H', ⟨by have := HJ2.out; have := HK2.out; omega⟩, ⟨by (with_reducible repeat (first | apply Kd.R_alloc | apply Kd.R_drewN | apply Kd.R_drew)); exact HO687.out⟩, ⟨by repeat (first | (with_reducible first | exact HB.out | apply below_alloc | apply pw_below_drewN | apply below_drew1 | refine below_set ?_ GE682.out) | exact HB.out)⟩⟩
                  · rw [if_neg c13] at H
                    exact absurd H (by simp)
                · rw [if_neg c12] at H
                  have c12b0 : (t684 == 0) = false := beq_eq_false_iff_ne.mpr c12
                  have c12b1 : (t684 != 0) = true := bne_iff_ne.mpr c12
                  simp only [Option.some.injEq, Prod.mk.injEq] at H
                  obtain ⟨rfl, rfl⟩ := H
                  have p681 : 0 ≤ (x23_2 : Int) := of_decide_eq_true (by first | (with_reducible assumption) | assumption)
                  have q681 : x23_2 < (l0.length : Int) := of_decide_eq_true (by first | (with_reducible assumption) | assumption)
                  obtain ⟨ad681, e681, hx681_0, hx681_1, hx681_2⟩ := at_T44 HR0.out x23_2 p681 q681
                  cases e681
                  replace hx681_0 := (HB.out.cell (World.block_lt_of_cell? w _ hx681_0)).trans hx681_0
                  replace hx681_1 := (HB.out.cell (World.block_lt_of_cell? w _ hx681_1)).trans hx681_1
                  replace hx681_2 := (HB.out.cell (World.block_lt_of_cell? w _ hx681_2)).trans hx681_2
                  replace p681 := eq_true p681
                  replace q681 := eq_true q681
                  go_wp2_with (first | ((with_reducible refine gate_dst (N := 8) rfl ?_); refine box_event ?hg (N := 8) ?hd (cs := #[.string (⟨#[]⟩ : ByteArray), .int .u64 0, .int .u64 0]) (t := 44) ?hr ?_; (case hd => rfl); (case hg => rfl); (case hr => first | (go_simp; done) | (go_simp; rfl)); intro gb682 hg w18 hbox hb; have n0_ := Aside0.mk (Kd.R_below (by (with_reducible repeat (first | apply Kd.R_alloc | apply Kd.R_drewN | apply Kd.R_drew)); exact HO_6.out) hb); have n1_ := Aside0.mk (below_step (by repeat (first | (with_reducible first | exact HB.out | apply below_alloc | apply pw_below_drewN | apply below_drew1) | exact HB.out)) hb); have n2_ := Aside0.mk (hbox); have n3_ := Aside0.mk ((by rw [hg]; exact (below_size (by repeat (first | (with_reducible first | exact HB.out | apply below_alloc | apply pw_below_drewN | apply below_drew1) | exact HB.out))) : w.heap.size ≤ gb682)); have n4_ := Aside0.mk ((by rw [hg]; exact (below_size (by repeat (first | (with_reducible first | exact HB.out | apply below_alloc | apply pw_below_drewN | apply below_drew1) | exact HB.out))) : w.heap.size ≤ gb682)); clear HO_6; clear HB; have HO_6 := n0_; have HB := n1_; have BK682 := n2_; have GW682 := n3_; have GE682 := n4_; clear n0_ n1_ n2_ n3_ n4_; clear hb hbox hg; have hcz19_0 : w18.cell? ⟨gb682, 0, none⟩ = some (.string (⟨#[]⟩ : ByteArray)) := (blk_cell BK682.out 0).trans rfl; have hcz19_1 : w18.cell? ⟨gb682, 1, none⟩ = some (.int .u64 0) := (blk_cell BK682.out 1).trans rfl; have hcz19_2 : w18.cell? ⟨gb682, 2, none⟩ = some (.int .u64 0) := (blk_cell BK682.out 2).trans rfl; have hfz19_0 := blk_frozen BK682.out 0; have hfz19_1 := blk_frozen BK682.out 1; have hfz19_2 := blk_frozen BK682.out 2) | ((with_reducible refine gate_callee (f := 48) rfl ?_); refine goesL_ (some 29) rfl rfl Tryd.func48 (by kernel_rfl) rfl #[.agg #[.string ((rd_T44 l0 x23_2).f0), .int .u64 ((rd_T44 l0 x23_2).f1.f0), .int .u64 ((rd_T44 l0 x23_2).f1.f1)]] rfl (by (try simp only [List.map_toArray, List.map_cons, List.map_nil]); first | done | rfl | (simp only [List.length_drop, List.length_take]; rfl)) ?_; (with_reducible refine (row_Text.calls ((rd_T44 l0 x23_2).f0) ((rd_T44 l0 x23_2).f1.f0) ((rd_T44 l0 x23_2).f1.f1) t683 t684 _ ?side1 A11.out).mono ?_); (case side1 => exact gt_below hG (by repeat (first | (with_reducible first | exact HB.out | apply below_alloc | apply pw_below_drewN | apply below_drew1 | refine below_set ?_ GE682.out) | exact HB.out))); rintro e w20 ⟨rfl, hb⟩; refine ⟨_, rfl, ?_⟩; have n0_ := Aside0.mk (Kd.R_below (by (with_reducible repeat (first | apply Kd.R_alloc | apply Kd.R_drewN | apply Kd.R_drew)); exact (Kd.R_mono (Kd.R_far (p := ⟨gb682, 2, none⟩) (Kd.R_far (p := ⟨gb682, 1, none⟩) (Kd.R_far (p := ⟨gb682, 0, none⟩) (Kd.R_types HO_6.out BK682.out (by decide)) (fun _ hk => hk.2) (.string ((rd_T44 l0 x23_2).f0))) (fun _ hk => hk.2) (.int .u64 ((rd_T44 l0 x23_2).f1.f0))) (fun _ hk => hk.2) (.int .u64 ((rd_T44 l0 x23_2).f1.f1))) (fun _ h_ => h_.1))) hb); have n1_ := Aside0.mk (blk_below (g := gb682) (o := .cells #[.string ((rd_T44 l0 x23_2).f0), .int .u64 ((rd_T44 l0 x23_2).f1.f0), .int .u64 ((rd_T44 l0 x23_2).f1.f1)] 44 (0, 0)) (by (with_reducible repeat (first | refine blk_drewN ?_ _ | refine blk_drew ?_ | refine blk_alloc ?_ _)); refine blk_put (cs := #[.string ((rd_T44 l0 x23_2).f0), .int .u64 ((rd_T44 l0 x23_2).f1.f0), .int .u64 0]) ?_ 2 _ rfl; (with_reducible repeat (first | refine blk_drewN ?_ _ | refine blk_drew ?_ | refine blk_alloc ?_ _)); refine blk_put (cs := #[.string ((rd_T44 l0 x23_2).f0), .int .u64 0, .int .u64 0]) ?_ 1 _ rfl; (with_reducible repeat (first | refine blk_drewN ?_ _ | refine blk_drew ?_ | refine blk_alloc ?_ _)); refine blk_put (cs := #[.string (⟨#[]⟩ : ByteArray), .int .u64 0, .int .u64 0]) ?_ 0 _ rfl; (with_reducible repeat (first | refine blk_drewN ?_ _ | refine blk_drew ?_ | refine blk_alloc ?_ _)); exact BK682.out) hb); have n2_ := Aside0.mk (below_step (by repeat (first | (with_reducible first | exact HB.out | apply below_alloc | apply pw_below_drewN | apply below_drew1 | refine below_set ?_ GE682.out) | exact HB.out)) hb); clear HO_6; clear BK682; clear HB; have HO_6 := n0_; have BK682 := n1_; have HB := n2_; clear n0_ n1_ n2_; (try clear hb); (try clear hb2); (try clear hk); (try clear hi)))
                  go_ret2
                  exact ⟨by first | rfl | (simp [errW_none, errW_some] <;> rfl) | (simp [*, errW_none, errW_some] <;> rfl), by repeat (first | (with_reducible first | exact HB.out | apply below_alloc | apply pw_below_drewN | apply below_drew1 | refine below_set ?_ GE682.out) | exact HB.out)⟩
              · rw [if_neg c10] at H
                exact absurd H (by simp)
            · rw [if_neg c9] at H
              exact absurd H (by simp)
          · rw [if_neg c8] at H
            have c8b0 : decide (x23_2 < (l0.length : Int)) = false := decide_eq_false c8
            clear c8
            by_cases c21 : 2 + a1.size ≤ 9223372036854775807
            · rw [if_pos c21] at H
              have c21b0 := eq_true c21
              have c21b1 : decide (2 + a1.size ≤ 9223372036854775807) = true := decide_eq_true c21
              try have c21b2 : (9223372036854775807 < 2 + a1.size) = False := eq_false (Nat.not_lt.2 c21)
              replace H := Option.bind_eq_some_iff.mp H
              obtain ⟨t688, A220, H⟩ := H
              replace H : (if (t688.length : Int) > 1 then (some ((⟨#[]⟩ : ByteArray), 91)) else (if 0 < (t688.length : Int) then (if ((rd_T56 t688 0).f3) = 0 then (if x6_2.length < 8796093022208 then ((lines_Join.f (x6_2 ++ [(⟨#[]⟩ : ByteArray)])).bind fun bt695 => (some (bt695.1, 0))) else (none)) else (some ((⟨#[]⟩ : ByteArray), 91))) else (none))) = some (r1, r2) := H
              have A22 := Aside0.mk A220
              clear A220
              by_cases c23 : (t688.length : Int) > 1
              · rw [if_pos c23] at H
                have c23b0 : decide (1 < (t688.length : Int)) = true := decide_eq_true c23
                have c23b1 : decide (1 < t688.length) = true := decide_eq_true (by omega)
                clear c23
                simp only [Option.some.injEq, Prod.mk.injEq] at H
                obtain ⟨rfl, rfl⟩ := H
                go_wp2_with (first | ((with_reducible refine gate_callee (f := 34) rfl ?_); refine goesL_ (some 42) rfl rfl Tryd.func34 (by kernel_rfl) rfl #[.string ((⟨#[35, 32]⟩ : ByteArray) ++ a1)] rfl (by (try simp only [List.map_toArray, List.map_cons, List.map_nil]); first | done | rfl | (simp only [List.length_drop, List.length_take]; rfl)) ?_; (with_reducible refine (lines_All.calls ((⟨#[35, 32]⟩ : ByteArray) ++ a1) t688 _ ?side1 A22.out).mono ?_); (case side1 => exact gt_below hG (by repeat (first | (with_reducible first | exact HB.out | apply below_alloc | apply pw_below_drewN | apply below_drew1) | exact HB.out))); rintro e w24 ⟨v689, rfl, ho0, hb⟩; refine ⟨_, rfl, ?_⟩; have n0_ := Aside0.mk (Kd.R_below (by (with_reducible repeat (first | apply Kd.R_alloc | apply Kd.R_drewN | apply Kd.R_drew)); exact HO_6.out) hb); have n1_ := Aside0.mk (Kd.R_lower ho0 (below_size (by repeat (first | (with_reducible first | exact HB.out | apply below_alloc | apply pw_below_drewN | apply below_drew1) | exact HB.out)))); have n2_ := Aside0.mk (below_step (by repeat (first | (with_reducible first | exact HB.out | apply below_alloc | apply pw_below_drewN | apply below_drew1) | exact HB.out)) hb); clear HO_6; clear HB; have HO_6 := n0_; have HO690 := n1_; have HB := n2_; clear n0_ n1_ n2_; (try clear hb); (try clear hb2); (try clear hk); (try clear hi); (try clear ho0); obtain ⟨Ao25, co25, eo25⟩ := Kd.R_slice HO690.out; subst eo25))
                go_ret2
                exact ⟨by first | rfl | (simp [errW_none, errW_some] <;> rfl) | (simp [*, errW_none, errW_some] <;> rfl), by repeat (first | (with_reducible first | exact HB.out | apply below_alloc | apply pw_below_drewN | apply below_drew1) | exact HB.out)⟩
              · rw [if_neg c23] at H
                have c23b0 : decide (1 < (t688.length : Int)) = false := decide_eq_false c23
                have c23b1 : decide (1 < t688.length) = false := decide_eq_false (by omega)
                clear c23
                by_cases c26 : 0 < (t688.length : Int)
                · rw [if_pos c26] at H
                  have c26b0 : decide (0 < (t688.length : Int)) = true := decide_eq_true c26
                  have c26b1 : decide (0 < t688.length) = true := decide_eq_true (by omega)
                  clear c26
                  by_cases c27 : ((rd_T56 t688 0).f3) = 0
                  · rw [if_pos c27] at H
                    have c27b0 : (((rd_T56 t688 0).f3) == 0) = true := beq_iff_eq.mpr c27
                    have c27b1 : (((rd_T56 t688 0).f3) != 0) = false := bne_eq_false_iff_eq.mpr c27
                    clear c27
                    by_cases c28 : x6_2.length < 8796093022208
                    · rw [if_pos c28] at H
                      have LMc28 := Aside0.mk c28
                      clear c28
                      obtain ⟨y692, hy692⟩ : ∃ y_ : List ByteArray, y_ = (x6_2 ++ [(⟨#[]⟩ : ByteArray)]) := ⟨_, rfl⟩
                      replace H : ((lines_Join.f y692).bind fun bt695 => (some (bt695.1, 0))) = some (r1, r2) := by first | (rw [hy692]; with_reducible exact H) | (have H2_ := (Option.bind_some _ _).symm.trans H; rw [hy692]; with_reducible exact H2_) | (have H2_ := (Option.bind_some _ _).symm.trans H; with_reducible exact H2_) | with_reducible exact H | (rw [hy692]; exact H) | exact H
                      have Ny692 := Aside0.mk hy692
                      clear hy692
                      replace H := Option.bind_eq_some_iff.mp H
                      obtain ⟨⟨t695, t696⟩, A290, H⟩ := H
                      replace H : (some (t695, 0)) = some (r1, r2) := H
                      have A29 := Aside0.mk A290
                      clear A290
                      simp only [Option.some.injEq, Prod.mk.injEq] at H
                      obtain ⟨rfl, rfl⟩ := H
                      go_wp2_with (first | ((with_reducible refine gate_callee (f := 34) rfl ?_); refine goesL_ (some 42) rfl rfl Tryd.func34 (by kernel_rfl) rfl #[.string ((⟨#[35, 32]⟩ : ByteArray) ++ a1)] rfl (by (try simp only [List.map_toArray, List.map_cons, List.map_nil]); first | done | rfl | (simp only [List.length_drop, List.length_take]; rfl)) ?_; (with_reducible refine (lines_All.calls ((⟨#[35, 32]⟩ : ByteArray) ++ a1) t688 _ ?side1 A22.out).mono ?_); (case side1 => exact gt_below hG (by repeat (first | (with_reducible first | exact HB.out | apply below_alloc | apply pw_below_drewN | apply below_drew1) | exact HB.out))); rintro e w30 ⟨v689, rfl, ho0, hb⟩; refine ⟨_, rfl, ?_⟩; have n0_ := Aside0.mk (Kd.R_below (by (with_reducible repeat (first | apply Kd.R_alloc | apply Kd.R_drewN | apply Kd.R_drew)); exact HO_6.out) hb); have n1_ := Aside0.mk (Kd.R_lower ho0 (below_size (by repeat (first | (with_reducible first | exact HB.out | apply below_alloc | apply pw_below_drewN | apply below_drew1) | exact HB.out)))); have n2_ := Aside0.mk (below_step (by repeat (first | (with_reducible first | exact HB.out | apply below_alloc | apply pw_below_drewN | apply below_drew1) | exact HB.out)) hb); clear HO_6; clear HB; have HO_6 := n0_; have HO690 := n1_; have HB := n2_; clear n0_ n1_ n2_; (try clear hb); (try clear hb2); (try clear hk); (try clear hi); (try clear ho0); obtain ⟨Ao31, co31, eo31⟩ := Kd.R_slice HO690.out; subst eo31; have p691 : 0 ≤ (0 : Int) := (by omega); have q691 : 0 < (t688.length : Int) := of_decide_eq_true (by first | (with_reducible assumption) | assumption); obtain ⟨ad691, e691, hx691_0, hx691_1, hx691_2, hx691_3⟩ := at_T56 (Kd.R_reads' HO690.out).2.2 0 p691 q691; cases e691; have qi691 : (0 < t688.length) = True := eq_true (by omega); (try rw [show ((0 : Int)).toNat = 0 from rfl] at hx691_0); (try rw [show 0 * 4 = 0 from rfl] at hx691_0); (try rw [Addr.add_zero'] at hx691_0); (try rw [show ((0 : Int)).toNat = 0 from rfl] at hx691_1); (try rw [show 0 * 4 = 0 from rfl] at hx691_1); (try rw [Addr.add_zero'] at hx691_1); (try rw [show ((0 : Int)).toNat = 0 from rfl] at hx691_2); (try rw [show 0 * 4 = 0 from rfl] at hx691_2); (try rw [Addr.add_zero'] at hx691_2); (try rw [show ((0 : Int)).toNat = 0 from rfl] at hx691_3); (try rw [show 0 * 4 = 0 from rfl] at hx691_3); (try rw [Addr.add_zero'] at hx691_3); replace p691 := eq_true p691; replace q691 := eq_true q691) | ((with_reducible refine gate_builtin (b := .append) (xs := #[.tmp 54, .tmp 55]) rfl ?_); at_builtin; refine Kd.R_append Kd.string (w0 := w) w.heap.size rfl (.tmp 54) (.tmp 55) 51 9 (.string ⟨#[]⟩) 16 rfl Tryd.underlying51 info9 rfl (by decide) (by omega) u6 x6_2 (⟨#[]⟩ : ByteArray) [.string (⟨#[]⟩ : ByteArray)] (fun _ => True) (fun _ => False) rfl rfl ?aP (fun _ hk => hk.elim) ?aF ?aO ?aB ?aS ?aL ?_; (case aP => exact rfl); (case aB => exact (by repeat (first | (with_reducible first | exact HB.out | apply below_alloc | apply pw_below_drewN | apply below_drew1) | exact HB.out))); (case aF => exact (fun _ _ => trivial)); (case aO => exact (by (with_reducible repeat (first | apply Kd.R_alloc | apply Kd.R_drewN | apply Kd.R_drew)); exact HO_6.out)); (case aS => exact (below_size (by repeat (first | (with_reducible first | exact HB.out | apply below_alloc | apply pw_below_drewN | apply below_drew1) | exact HB.out)))); (case aL => have := LMc28.out; omega); intro v693 w32 ho hb hg hat; rw [← Ny692.out] at ho; have n0_ := Aside0.mk (Kd.R_over' (by (with_reducible repeat (first | apply Kd.R_alloc | apply Kd.R_drewN | apply Kd.R_drew)); exact HO690.out) (Kd.R_typed (by (with_reducible repeat (first | apply Kd.R_alloc | apply Kd.R_drewN | apply Kd.R_drew)); exact HO_6.out)) (by decide) hg); have n1_ := Aside0.mk (hb); have n2_ := Aside0.mk (ho); clear HO690; clear HB; clear HO_6; have HO690 := n0_; have HB := n1_; have HO694 := n2_; clear n0_ n1_ n2_; clear ho hb hg hat; obtain ⟨Ao33, co33, eo33⟩ := Kd.R_slice HO694.out; subst eo33) | ((with_reducible refine gate_callee (f := 42) rfl ?_); refine goesL_ (some 57) rfl rfl Tryd.func42 (by kernel_rfl) rfl #[.slice Ao33 y692.length co33] rfl (by (try simp only [List.map_toArray, List.map_cons, List.map_nil]); first | done | rfl | (simp only [List.length_drop, List.length_take]; rfl)) ?_; (with_reducible refine (lines_Join.calls _ _ y692 t695 t696 _ ?side1 ?side2 A29.out).mono ?_); (case side1 => repeat (first | exact (Kd.R_reads' HO694.out).2.2 | (with_reducible refine Kd.C_alloc ?_ _) | (with_reducible refine Kd.C_drewN ?_ _) | (with_reducible refine Kd.C_drew ?_))); (case side2 => exact (Kd.R_reads' HO694.out).2.1); rintro e w34 ⟨rfl, hb⟩; refine ⟨_, rfl, ?_⟩; have n0_ := Aside0.mk (Kd.R_below (by (with_reducible repeat (first | apply Kd.R_alloc | apply Kd.R_drewN | apply Kd.R_drew)); exact HO690.out) hb); have n1_ := Aside0.mk (Kd.R_below (by (with_reducible repeat (first | apply Kd.R_alloc | apply Kd.R_drewN | apply Kd.R_drew)); exact HO694.out) hb); have n2_ := Aside0.mk (below_step (by repeat (first | (with_reducible first | exact HB.out | apply below_alloc | apply pw_below_drewN | apply below_drew1) | exact HB.out)) hb); clear HO690; clear HO694; clear HB; have HO690 := n0_; have HO694 := n1_; have HB := n2_; clear n0_ n1_ n2_; (try clear hb); (try clear hb2); (try clear hk); (try clear hi)))
                      go_ret2
                      exact ⟨by first | rfl | (simp [errW_none, errW_some] <;> rfl) | (simp [*, errW_none, errW_some] <;> rfl), by repeat (first | (with_reducible first | exact HB.out | apply below_alloc | apply pw_below_drewN | apply below_drew1) | exact HB.out)⟩
                    · rw [if_neg c28] at H
                      exact absurd H (by simp)
                  · rw [if_neg c27] at H
                    have c27b0 : (((rd_T56 t688 0).f3) == 0) = false := beq_eq_false_iff_ne.mpr c27
                    have c27b1 : (((rd_T56 t688 0).f3) != 0) = true := bne_iff_ne.mpr c27
                    simp only [Option.some.injEq, Prod.mk.injEq] at H
                    obtain ⟨rfl, rfl⟩ := H
                    go_wp2_with (first | ((with_reducible refine gate_callee (f := 34) rfl ?_); refine goesL_ (some 42) rfl rfl Tryd.func34 (by kernel_rfl) rfl #[.string ((⟨#[35, 32]⟩ : ByteArray) ++ a1)] rfl (by (try simp only [List.map_toArray, List.map_cons, List.map_nil]); first | done | rfl | (simp only [List.length_drop, List.length_take]; rfl)) ?_; (with_reducible refine (lines_All.calls ((⟨#[35, 32]⟩ : ByteArray) ++ a1) t688 _ ?side1 A22.out).mono ?_); (case side1 => exact gt_below hG (by repeat (first | (with_reducible first | exact HB.out | apply below_alloc | apply pw_below_drewN | apply below_drew1) | exact HB.out))); rintro e w35 ⟨v689, rfl, ho0, hb⟩; refine ⟨_, rfl, ?_⟩; have n0_ := Aside0.mk (Kd.R_below (by (with_reducible repeat (first | apply Kd.R_alloc | apply Kd.R_drewN | apply Kd.R_drew)); exact HO_6.out) hb); have n1_ := Aside0.mk (Kd.R_lower ho0 (below_size (by repeat (first | (with_reducible first | exact HB.out | apply below_alloc | apply pw_below_drewN | apply below_drew1) | exact HB.out)))); have n2_ := Aside0.mk (below_step (by repeat (first | (with_reducible first | exact HB.out | apply below_alloc | apply pw_below_drewN | apply below_drew1) | exact HB.out)) hb); clear HO_6; clear HB; have HO_6 := n0_; have HO690 := n1_; have HB := n2_; clear n0_ n1_ n2_; (try clear hb); (try clear hb2); (try clear hk); (try clear hi); (try clear ho0); obtain ⟨Ao36, co36, eo36⟩ := Kd.R_slice HO690.out; subst eo36; have p691 : 0 ≤ (0 : Int) := (by omega); have q691 : 0 < (t688.length : Int) := of_decide_eq_true (by first | (with_reducible assumption) | assumption); obtain ⟨ad691, e691, hx691_0, hx691_1, hx691_2, hx691_3⟩ := at_T56 (Kd.R_reads' HO690.out).2.2 0 p691 q691; cases e691; have qi691 : (0 < t688.length) = True := eq_true (by omega); (try rw [show ((0 : Int)).toNat = 0 from rfl] at hx691_0); (try rw [show 0 * 4 = 0 from rfl] at hx691_0); (try rw [Addr.add_zero'] at hx691_0); (try rw [show ((0 : Int)).toNat = 0 from rfl] at hx691_1); (try rw [show 0 * 4 = 0 from rfl] at hx691_1); (try rw [Addr.add_zero'] at hx691_1); (try rw [show ((0 : Int)).toNat = 0 from rfl] at hx691_2); (try rw [show 0 * 4 = 0 from rfl] at hx691_2); (try rw [Addr.add_zero'] at hx691_2); (try rw [show ((0 : Int)).toNat = 0 from rfl] at hx691_3); (try rw [show 0 * 4 = 0 from rfl] at hx691_3); (try rw [Addr.add_zero'] at hx691_3); replace p691 := eq_true p691; replace q691 := eq_true q691))
                    go_ret2
                    exact ⟨by first | rfl | (simp [errW_none, errW_some] <;> rfl) | (simp [*, errW_none, errW_some] <;> rfl), by repeat (first | (with_reducible first | exact HB.out | apply below_alloc | apply pw_below_drewN | apply below_drew1) | exact HB.out)⟩
                · rw [if_neg c26] at H
                  exact absurd H (by simp)
            · rw [if_neg c21] at H
              exact absurd H (by simp)
end Go.Proofs.YtpkjpiphjdpegaaDoor.P
namespace Go.Proofs.YtpkjpiphjdpegaaDoor.P
open Go.RowKit Go.Proofs.YtpkjpiphjdpegaaDoorW.PrintWords Go.Proofs.YtpkjpiphjdpegaaDoorW.PrintLast Go.Proofs.YtpkjpiphjdpegaaDoorW.PrintMore
set_option linter.unusedVariables false
set_option linter.unusedSimpArgs false
theorem tail_lenN (n : Nat) : ∀ r : List ByteArray, (∀ x ∈ r, x.size ≤ n) → (Lib.joinTail [10] (r.map (·.data.toList))).length ≤ (n + 1) * r.length
  | [], _ => by simp [Lib.joinTail]
  | y :: r, h => by
    have a := tail_lenN n r fun x hx => h x (List.mem_cons_of_mem _ hx)
    have b := h y (List.mem_cons_self ..)
    have e : y.data.toList.length = y.size := Array.length_toList
    rw [List.map_cons, tail_cons, List.length_cons, List.length_append, List.length_cons, e, Nat.mul_succ]
    omega
theorem join_lenN (n : Nat) (l : List ByteArray) (h : ∀ x ∈ l, x.size ≤ n) : (Lib.join (l.map (·.data.toList)) [10]).length ≤ (n + 1) * l.length := by
  cases l with
  | nil => simp [Lib.join]
  | cons y r =>
    have a := tail_lenN n r fun x hx => h x (List.mem_cons_of_mem _ hx)
    have b := h y (List.mem_cons_self ..)
    have e : y.data.toList.length = y.size := Array.length_toList
    rw [List.map_cons, joinB_cons, List.length_append, List.length_cons, e, Nat.mul_succ]
    omega
def noId (y : S44) : Bool := !mayId y.f0
def lineR (y : S44) : ByteArray := lineB y.f0 y.f1.f0 y.f1.f1
def rowOk (y : S44) : Prop := y.f0.size ≤ 1000000 ∧ U64 y.f1.f0 ∧ U64 y.f1.f1
def remL (s : ByteArray) : List UInt8 := 35 :: 32 :: s.data.toList
def remOkB (s : ByteArray) : Bool := decide ((splitB (remL s)).length ≤ 1) && decide (wrongOf (remL s) = 0)
abbrev remOk (s : ByteArray) : Prop := remOkB s = true
theorem remOk_is {s : ByteArray} : remOk s ↔ (splitB (remL s)).length ≤ 1 ∧ wrongOf (remL s) = 0 := by
  show remOkB s = true ↔ _
  unfold remOkB
  rw [Bool.and_eq_true, decide_eq_true_eq, decide_eq_true_eq]
theorem rem_is (s : ByteArray) : (⟨#[35, 32]⟩ : ByteArray) ++ s = mk (remL s) := by
  apply ByteArray.ext
  apply Array.toList_inj.1
  rw [ByteArray.data_append, Array.toList_append]
  rfl
theorem rd44 (l : List S44) (i : Nat) (hi : i < l.length) : rd_T44 l (i : Int) = l[i] := by
  unfold rd_T44
  rw [Int.toNat_natCast, List.getD_eq_getElem?_getD, List.getElem?_eq_getElem hi]
  rfl
theorem write_l0 (s : ByteArray) (l : List S44) (hl : l.length ≤ 1000000) (hg : ∀ y ∈ l, rowOk y) (k : Nat) : ∀ (t i : Nat) (acc : List ByteArray), i + t = l.length → acc.length ≤ i + 1 →
    row_Write.l0 (k + 1 + t) s acc l (l.length : Int) (i : Int) = if (l.drop i).any noId = true then some ((⟨#[]⟩ : ByteArray), 101) else row_Write.l0 (k + 1) s (acc ++ (l.drop i).map lineR) l (l.length : Int) (l.length : Int)
  | 0, i, acc, h, ha => by
    obtain rfl : i = l.length := by omega
    rw [List.drop_length, List.any_nil, if_neg (by decide), List.map_nil, List.append_nil]
  | t + 1, i, acc, h, ha => by
    have hi : i < l.length := by omega
    have nx : l.drop i = l[i] :: l.drop (i + 1) := List.drop_eq_getElem_cons hi
    have hm : l[i] ∈ l := List.getElem_mem hi
    obtain ⟨g1, g2, g3⟩ := hg _ hm
    have w1 : wrap64 ((i : Int) + 1) = ((i + 1 : Nat) : Int) := by rw [wrapI _ (by omega) (by omega)]; push_cast; rfl
    rw [nx, List.any_cons, List.map_cons]
    conv => lhs; rw [show k + 1 + (t + 1) = (k + 1 + t) + 1 by omega, row_Write.l0, if_pos (show (i : Int) < (l.length : Int) by omega), if_pos (show (0 : Int) ≤ (i : Int) by omega), if_pos (show (i : Int) < (l.length : Int) by omega), rd44 l i hi, text_is _ _ _ (by omega) g2 g3, Option.bind_some]
    unfold rowText noId
    by_cases m : mayId l[i].f0 = true
    · rw [if_pos m, m]
      dsimp only
      rw [if_pos rfl, if_pos (by omega), w1, write_l0 s l hl hg k t (i + 1) _ (by omega) (by rw [List.length_append, List.length_singleton]; omega), List.append_assoc]
      rfl
    · have mf : mayId l[i].f0 = false := by simpa using m
      rw [if_neg m, mf]
      dsimp only
      rw [if_neg (by decide), if_pos (by simp)]
theorem split_single (l : List UInt8) (h : (splitB l).length ≤ 1) : splitB l = [l] ∧ ∀ b ∈ l, b ≠ 10 := by
  have c := split_count l
  have z : l.count 10 = 0 := by omega
  have n : ∀ b ∈ l, b ≠ 10 := by
    intro b hb e
    subst e
    have := List.count_pos_iff.2 hb
    omega
  exact ⟨splitB_one l n, n⟩
theorem write_end (s : ByteArray) (hs : s.size ≤ 1000) (A : List ByteArray) (hA : A.length ≤ 1000) (hz : ∀ x ∈ A, x.size ≤ 2000) (hc : remOk s → ∀ x ∈ A, ∀ b ∈ x.data.toList, b ≠ 10) (l : List S44) (k : Nat) :
    row_Write.l0 (k + 1) s A l (l.length : Int) (l.length : Int) = some (if remOk s then (joinL (A ++ [mk []]), 0) else ((⟨#[]⟩ : ByteArray), 91)) := by
  have e : s.data.toList.length = s.size := Array.length_toList
  have el : (remL s).length = s.size + 2 := by unfold remL; rw [List.length_cons, List.length_cons, e]
  rw [row_Write.l0, if_neg (by omega), if_pos (by omega), rem_is, all_f _ (by rw [mk_size]; omega), Option.bind_some]
  have al : allL (mk (remL s)) = linesL 1 (splitB (remL s)) := rfl
  rw [al, linesL_len]
  by_cases c1 : (splitB (remL s)).length ≤ 1
  · have sp := (split_single _ c1).1
    rw [sp]
    have r0 : rd_T56 (linesL 1 [remL s]) 0 = lineOf 1 (remL s) := rfl
    have f3 : (lineOf 1 (remL s)).f3 = wrongOf (remL s) := rfl
    rw [if_neg (by simp), if_pos (by simp), r0, f3]
    by_cases c2 : wrongOf (remL s) = 0
    · have ok : remOk s := remOk_is.2 ⟨c1, c2⟩
      have jl := join_lenN 2000 (A ++ [mk []]) (by
        intro x hx
        rcases List.mem_append.1 hx with h | h
        · exact hz x h
        · rw [List.mem_singleton.1 h, mk_size]; simp)
      rw [List.length_append, List.length_singleton] at jl
      have nb : (A ++ [mk []]).any brk = false := by
        rw [List.any_eq_false]
        intro x hx
        rw [← mk_of x, Bool.not_eq_true, brk_clean]
        rcases List.mem_append.1 hx with h | h
        · exact hc ok x h
        · rw [List.mem_singleton.1 h, mk_list]; simp
      rw [if_pos c2, if_pos (by omega), if_pos ok]
      have jf := join_f (A ++ [mk []]) (by rw [List.length_append, List.length_singleton]; omega) (by omega)
      rw [nb, if_neg (by decide)] at jf
      rw [show (⟨#[]⟩ : ByteArray) = mk [] from rfl, jf, Option.bind_some]
    · rw [if_neg c2, if_neg (fun ok => c2 (remOk_is.1 ok).2)]
  · rw [if_pos (by omega), if_neg (fun ok => c1 (remOk_is.1 ok).1)]
def preL (s : ByteArray) : List ByteArray := if s.data.toList = [] then [] else [mk (remL s)]
theorem preL_len (s : ByteArray) : (preL s).length ≤ 1 := by unfold preL; split <;> simp
def writeOf (l : List S44) (s : ByteArray) : ByteArray × Int :=
  if l.any noId = true then ((⟨#[]⟩ : ByteArray), 101) else if remOk s then (joinL ((preL s ++ l.map lineR) ++ [mk []]), 0) else ((⟨#[]⟩ : ByteArray), 91)
theorem row_ids (l : List S44) (h : ¬ l.any noId = true) : ∀ y ∈ l, mayId y.f0 = true := by
  intro y hy
  have := List.any_eq_false.1 (by simpa using h : l.any noId = false) y hy
  unfold noId at this
  simpa using this
theorem pre_facts (l : List S44) (hl : l.length ≤ 900) (hg : ∀ y ∈ l, rowOk y) (hm : ∀ y ∈ l, mayId y.f0 = true) (s : ByteArray) (hs : s.size ≤ 1000) :
    (preL s ++ l.map lineR).length ≤ 1000 ∧ (∀ x ∈ preL s ++ l.map lineR, x.size ≤ 2000) ∧ (remOk s → ∀ x ∈ preL s ++ l.map lineR, ∀ b ∈ x.data.toList, b ≠ 10) := by
  have e : s.data.toList.length = s.size := Array.length_toList
  have el : (remL s).length = s.size + 2 := by unfold remL; rw [List.length_cons, List.length_cons, e]
  have pl := preL_len s
  refine ⟨by rw [List.length_append, List.length_map]; omega, fun x hx => ?_, fun ok x hx => ?_⟩
  · rcases List.mem_append.1 hx with h | h
    · unfold preL at h
      split at h
      · simp at h
      · rw [List.mem_singleton.1 h, mk_size]; omega
    · obtain ⟨y, hy, rfl⟩ := List.mem_map.1 h
      have := line_size y.f0 y.f1.f0 y.f1.f1 (hm y hy) (hg y hy).2.1 (hg y hy).2.2
      show (lineB _ _ _).size ≤ _
      omega
  · rcases List.mem_append.1 hx with h | h
    · unfold preL at h
      split at h
      · simp at h
      · rw [List.mem_singleton.1 h, mk_list]; exact (split_single _ (remOk_is.1 ok).1).2
    · obtain ⟨y, hy, rfl⟩ := List.mem_map.1 h
      exact line_bytes y.f0 y.f1.f0 y.f1.f1 (hm y hy) (hg y hy).2.1 (hg y hy).2.2
theorem write_is (l : List S44) (hl : l.length ≤ 900) (hg : ∀ y ∈ l, rowOk y) (s : ByteArray) (hs : s.size ≤ 1000) (k : Nat) (hk : 1002 ≤ k) : row_Write.f k l s = some (writeOf l s) := by
  have J : ∀ acc : List ByteArray, acc = preL s → row_Write.j0 k l s acc = some (writeOf l s) := by
    intro acc ea
    have pl := preL_len s
    obtain ⟨j, rfl⟩ : ∃ j, k = (j + 1 + l.length) + 1 := ⟨k - 2 - l.length, by omega⟩
    have := write_l0 s l (by omega) hg j l.length 0 acc (by omega) (by rw [ea]; omega)
    rw [List.drop_zero] at this
    rw [row_Write.j0]
    refine this.trans ?_
    unfold writeOf
    by_cases c : l.any noId = true
    · rw [if_pos c, if_pos c]
    · obtain ⟨p1, p2, p3⟩ := pre_facts l hl hg (row_ids l c) s hs
      rw [if_neg c, if_neg c, ea, write_end s hs _ p1 p2 p3 l j]
  unfold row_Write.f
  by_cases c : s.data.toList = []
  · rw [if_pos (by rw [toList_eq]; exact c)]
    exact J [] (by unfold preL; rw [if_pos c])
  · rw [if_neg (by rw [toList_eq]; exact c), if_pos (by omega), if_pos (by simp), rem_is, List.nil_append]
    exact J _ (by unfold preL; rw [if_neg c])
theorem one_empty : oneB [] = ((⟨#[]⟩ : ByteArray), 0, 0, false, 0) := by
  have w : wrongOf [] = 0 := by
    unfold wrongOf
    rw [Lib.validD_nil, if_pos rfl]
    rfl
  unfold oneB
  rw [if_pos w, if_neg (by decide)]
theorem write_split (l : List S44) (hl : l.length ≤ 900) (hg : ∀ y ∈ l, rowOk y) (hm : ∀ y ∈ l, mayId y.f0 = true) (s : ByteArray) (hs : s.size ≤ 1000) (ok : remOk s) :
    splitB (joinL ((preL s ++ l.map lineR) ++ [mk []])).data.toList = (preL s).map (·.data.toList) ++ (l.map (fun y => (lineR y).data.toList) ++ [[]]) := by
  obtain ⟨p1, p2, p3⟩ := pre_facts l hl hg hm s hs
  have c := p3 ok
  show splitB (Lib.join (((preL s ++ l.map lineR) ++ [mk []]).map (·.data.toList)) [10]) = _
  have e : ((preL s ++ l.map lineR) ++ [mk []]).map (·.data.toList) = (preL s).map (·.data.toList) ++ (l.map (fun y => (lineR y).data.toList) ++ [[]]) := by
    rw [List.map_append, List.map_append, List.map_map, List.append_assoc]
    rfl
  have cl : ∀ x ∈ ((preL s ++ l.map lineR) ++ [mk []]).map (·.data.toList), ∀ b ∈ x, b ≠ 10 := by
    intro x hx
    obtain ⟨z, hz, rfl⟩ := List.mem_map.1 hx
    rcases List.mem_append.1 hz with h | h
    · exact c z h
    · rw [List.mem_singleton.1 h, mk_list]; simp
  cases q : ((preL s ++ l.map lineR) ++ [mk []]).map (·.data.toList) with
  | nil => exact absurd (congrArg List.length q) (by simp)
  | cons y r => rw [q] at cl e; rw [split_join r y cl, e]
end Go.Proofs.YtpkjpiphjdpegaaDoor.P
namespace Go.Proofs.YtpkjpiphjdpegaaDoor.P
open Go.RowKit Go.Proofs.YtpkjpiphjdpegaaDoorW.PrintWords Go.Proofs.YtpkjpiphjdpegaaDoorW.PrintLast Go.Proofs.YtpkjpiphjdpegaaDoorW.PrintMore
attribute [local go_sem] max2_int min2_int max_two min_two max_three min_three max_four min_four
set_option linter.unusedVariables false
set_option linter.unusedSimpArgs false
attribute [local go_sem high] eqA44
def paymasterlaw10_Long.l0 : Nat → List (S44) → Int → Option (Bool)
  | 0, _, _ => none
  | k + 1, x0, x3 => if x3 < (x0.length : Int) then (if 0 ≤ x3 then (if (((rd_T44 x0 x3).f0).size : Int) > 200 then (some true) else (paymasterlaw10_Long.l0 k x0 (wrap64 (x3 + 1)))) else (none)) else (some false)
def paymasterlaw10_Long.f (k : Nat) (l0 : List (S44)) : Option (Bool) := if (l0.length : Int) > 200 then (some true) else (paymasterlaw10_Long.l0 k l0 0)
set_option maxHeartbeats 8000000 in
set_option maxRecDepth 100000 in
theorem paymasterlaw10_Long.calls (k : Nat) (A0 : Option Addr) (c0 : Nat) (l0 : List (S44)) (r : Bool) (w : World) (hr0 : Kd.C k44 w A0 l0.length l0) (hc0 : l0.length ≤ c0) (h : paymasterlaw10_Long.f k l0 = some r) :
    Calls Tryd.prog 26 #[.slice A0 l0.length c0] w fun e w' => e = .returned (.bool r) ∧ Drawn0 w w' := by
  have HR0 := Aside0.mk hr0
  have HC0 := Aside0.mk hc0
  clear hr0 hc0
  have H : (if (l0.length : Int) > 200 then (some true) else (paymasterlaw10_Long.l0 k l0 0)) = some r := h
  clear h
  by_cases c2 : (l0.length : Int) > 200
  · rw [if_pos c2] at H
    have c2b0 : decide (200 < (l0.length : Int)) = true := decide_eq_true c2
    have c2b1 : decide (200 < l0.length) = true := decide_eq_true (by omega)
    clear c2
    obtain rfl := Option.some.inj H
    go_enter Tryd.func26, Tryd.ntmps26
    go_wp2
    go_ret
    exact ⟨by first | rfl | (simp; done) | (simp [*]; done), by repeat (first | exact Drawn0.refl _ | apply Drawn0.step)⟩
  · rw [if_neg c2] at H
    have c2b0 : decide (200 < (l0.length : Int)) = false := decide_eq_false c2
    have c2b1 : decide (200 < l0.length) = false := decide_eq_false (by omega)
    clear c2
    have H' := Aside0.mk H
    clear H
    go_enter Tryd.func26, Tryd.ntmps26
    go_wp2
    go_loopg [3] k (fun kq v3 w' => ∃ (x3_1 : Int), v3 = .int .i64 x3_1 ∧ Aside0 (paymasterlaw10_Long.l0 kq l0 x3_1 = some r) ∧ Aside0 (kq ≤ k) ∧ Drawn0 w w')
    case atStart => exact ⟨(0), (by first | rfl | (simp; done) | (simp [*]; done)), H', ⟨Nat.le_refl _⟩, by repeat (first | exact Drawn0.refl _ | apply Drawn0.step)⟩
    case round =>
      clear H'
      try clear c2
      try clear c2b0
      try clear c2b1
      try clear p2
      obtain ⟨x3_1, rfl, HA, HK1, ⟨m1, rfl⟩⟩ := hrel
      cases gk with
      | zero => exact absurd HA.out (by simp [paymasterlaw10_Long.l0])
      | succ k1 =>
        have H := HA.out
        clear HA
        simp only [paymasterlaw10_Long.l0] at H
        by_cases c3 : x3_1 < (l0.length : Int)
        · rw [if_pos c3] at H
          have c3b0 : decide (x3_1 < (l0.length : Int)) = true := decide_eq_true c3
          clear c3
          by_cases c4 : 0 ≤ x3_1
          · rw [if_pos c4] at H
            have c4b0 : decide (0 ≤ x3_1) = true := decide_eq_true c4
            clear c4
            by_cases c5 : (((rd_T44 l0 x3_1).f0).size : Int) > 200
            · rw [if_pos c5] at H
              have c5b0 : decide (200 < (((rd_T44 l0 x3_1).f0).size : Int)) = true := decide_eq_true c5
              have c5b1 : decide (200 < ((rd_T44 l0 x3_1).f0).size) = true := decide_eq_true (by omega)
              clear c5
              obtain rfl := Option.some.inj H
              have p828 : 0 ≤ (x3_1 : Int) := of_decide_eq_true (by first | (with_reducible assumption) | assumption)
              have q828 : x3_1 < (l0.length : Int) := of_decide_eq_true (by first | (with_reducible assumption) | assumption)
              obtain ⟨ad828, e828, hx828_0, hx828_1, hx828_2⟩ := at_T44 HR0.out x3_1 p828 q828
              cases e828
              replace p828 := eq_true p828
              replace q828 := eq_true q828
              go_wp2
              go_ret
              exact ⟨by first | rfl | (simp; done) | (simp [*]; done), by repeat (first | exact Drawn0.refl _ | apply Drawn0.step)⟩
            · rw [if_neg c5] at H
              have c5b0 : decide (200 < (((rd_T44 l0 x3_1).f0).size : Int)) = false := decide_eq_false c5
              have c5b1 : decide (200 < ((rd_T44 l0 x3_1).f0).size) = false := decide_eq_false (by omega)
              clear c5
              have H' := Aside0.mk H
              clear H
              have p828 : 0 ≤ (x3_1 : Int) := of_decide_eq_true (by first | (with_reducible assumption) | assumption)
              have q828 : x3_1 < (l0.length : Int) := of_decide_eq_true (by first | (with_reducible assumption) | assumption)
              obtain ⟨ad828, e828, hx828_0, hx828_1, hx828_2⟩ := at_T44 HR0.out x3_1 p828 q828
              cases e828
              replace p828 := eq_true p828
              replace q828 := eq_true q828
              go_wp2
              go_roundg k1
              case measure => have := HK1.out; omega
              case rel => exact ⟨(wrap64 (x3_1 + 1)), (by first | rfl | (simp; done) | (simp [*]; done)), H', ⟨by have := HK1.out; omega⟩, by repeat (first | exact Drawn0.refl _ | apply Drawn0.step)⟩
          · rw [if_neg c4] at H
            exact absurd H (by simp)
        · rw [if_neg c3] at H
          have c3b0 : decide (x3_1 < (l0.length : Int)) = false := decide_eq_false c3
          clear c3
          obtain rfl := Option.some.inj H
          go_wp2
          go_ret
          exact ⟨by first | rfl | (simp; done) | (simp [*]; done), by repeat (first | exact Drawn0.refl _ | apply Drawn0.step)⟩
end Go.Proofs.YtpkjpiphjdpegaaDoor.P
namespace Go.Proofs.YtpkjpiphjdpegaaDoor.P
open Go.RowKit Go.Proofs.YtpkjpiphjdpegaaDoorW.PrintWords Go.Proofs.YtpkjpiphjdpegaaDoorW.PrintLast Go.Proofs.YtpkjpiphjdpegaaDoorW.PrintMore
set_option linter.unusedVariables false
set_option linter.unusedSimpArgs false
theorem long_l0 (l : List S44) (hl : l.length ≤ 200) (k : Nat) : ∀ (t i : Nat), i + t = l.length → ∃ b, paymasterlaw10_Long.l0 (k + 1 + t) l (i : Int) = some b ∧ (b = false → ∀ y ∈ l.drop i, y.f0.size ≤ 200)
  | 0, i, h => by
    refine ⟨false, ?_, fun _ => ?_⟩
    · show paymasterlaw10_Long.l0 (k + 1) _ _ = _
      rw [paymasterlaw10_Long.l0, if_neg (by omega)]
    · obtain rfl : i = l.length := by omega
      rw [List.drop_length]; simp
  | t + 1, i, h => by
    have hi : i < l.length := by omega
    have nx : l.drop i = l[i] :: l.drop (i + 1) := List.drop_eq_getElem_cons hi
    have w1 : wrap64 ((i : Int) + 1) = ((i + 1 : Nat) : Int) := by rw [wrapI _ (by omega) (by omega)]; push_cast; rfl
    rw [show k + 1 + (t + 1) = (k + 1 + t) + 1 by omega, paymasterlaw10_Long.l0, if_pos (show (i : Int) < (l.length : Int) by omega), if_pos (show (0 : Int) ≤ (i : Int) by omega), rd44 l i hi]
    by_cases c : (l[i].f0.size : Int) > 200
    · rw [if_pos c]
      exact ⟨true, rfl, fun e => by cases e⟩
    · rw [if_neg c, w1]
      obtain ⟨b, h1, h2⟩ := long_l0 l hl k t (i + 1) (by omega)
      refine ⟨b, h1, fun e y hy => ?_⟩
      rw [nx] at hy
      rcases List.mem_cons.1 hy with rfl | hy
      · omega
      · exact h2 e y hy
theorem long_is (l : List S44) (k : Nat) (hk : 300 ≤ k) : ∃ b, paymasterlaw10_Long.f k l = some b ∧ (b = false → l.length ≤ 200 ∧ ∀ y ∈ l, y.f0.size ≤ 200) := by
  unfold paymasterlaw10_Long.f
  by_cases c : (l.length : Int) > 200
  · rw [if_pos c]
    exact ⟨true, rfl, fun e => by cases e⟩
  · rw [if_neg c]
    obtain ⟨b, h1, h2⟩ := long_l0 l (by omega) (k - 1 - l.length) l.length 0 (by omega)
    rw [show k - 1 - l.length + 1 + l.length = k by omega] at h1
    exact ⟨b, h1, fun e => ⟨by omega, h2 e⟩⟩
end Go.Proofs.YtpkjpiphjdpegaaDoor.P
