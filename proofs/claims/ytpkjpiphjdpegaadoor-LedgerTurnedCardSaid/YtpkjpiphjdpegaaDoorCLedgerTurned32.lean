/- A program of this session wrote this text out of the session's own texts. (part 32 of 44) -/
import Derived.Test.YtpkjpiphjdpegaaDoorCLedgerTurned4
import Derived.Test.YtpkjpiphjdpegaaDoorCLedgerTurned17
import Derived.Test.YtpkjpiphjdpegaaDoorCLedgerTurned19
import Derived.Test.YtpkjpiphjdpegaaDoorCLedgerTurned22
import Derived.Test.YtpkjpiphjdpegaaDoorCLedgerTurned23
import Derived.Test.YtpkjpiphjdpegaaDoorCLedgerTurned24
import Derived.Test.YtpkjpiphjdpegaaDoorCLedgerTurned25
import Derived.Test.YtpkjpiphjdpegaaDoorCLedgerTurned26
import Derived.Test.YtpkjpiphjdpegaaDoorCLedgerTurned29
import Derived.Test.YtpkjpiphjdpegaaDoorCLedgerTurned30
import Derived.Test.YtpkjpiphjdpegaaDoorCLedgerTurned31
import Derived.Test.YtpkjpiphjdpegaaDoorProg
namespace Go.Proofs.YtpkjpiphjdpegaaDoor.P
open Go.RowKit Go.Proofs.YtpkjpiphjdpegaaDoorW.PrintWords Go.Proofs.YtpkjpiphjdpegaaDoorW.PrintLast Go.Proofs.YtpkjpiphjdpegaaDoorW.PrintMore
set_option linter.unusedVariables false
set_option linter.unusedSimpArgs false
def cutAt (c : UInt8) : List UInt8 → Option (List UInt8 × List UInt8)
  | [] => none
  | b :: l => if b = c then some ([], l) else (cutAt c l).map fun p => (b :: p.1, p.2)
theorem cutAt_some {c : UInt8} : ∀ {l h t : List UInt8}, cutAt c l = some (h, t) → l = h ++ c :: t ∧ ∀ b ∈ h, b ≠ c
  | [], h, t, e => by cases e
  | b :: l, h, t, e => by
    rw [cutAt] at e
    by_cases q : b = c
    · rw [if_pos q] at e
      cases e
      rw [q]
      exact ⟨rfl, by simp⟩
    · rw [if_neg q] at e
      cases k : cutAt c l with
      | none => rw [k] at e; cases e
      | some p =>
        rw [k] at e
        cases e
        obtain ⟨h', t'⟩ := p
        obtain ⟨e1, e2⟩ := cutAt_some k
        refine ⟨by rw [e1]; rfl, fun x hx => ?_⟩
        rcases List.mem_cons.1 hx with rfl | hx
        · exact q
        · exact e2 x hx
theorem cutAt_none {c : UInt8} : ∀ {l : List UInt8}, cutAt c l = none → ∀ b ∈ l, b ≠ c
  | [], _ => by simp
  | b :: l, e => by
    rw [cutAt] at e
    by_cases q : b = c
    · rw [if_pos q] at e; cases e
    · rw [if_neg q] at e
      cases k : cutAt c l with
      | none =>
        intro x hx
        rcases List.mem_cons.1 hx with rfl | hx
        · exact q
        · exact cutAt_none k x hx
      | some p => rw [k] at e; cases e
theorem index_clean (c : UInt8) : ∀ (l : List UInt8), (∀ b ∈ l, b ≠ c) → Lib.indexByte l c = -1
  | [], _ => rfl
  | b :: l, h => by
    have ih := index_clean c l fun x hx => h x (List.mem_cons_of_mem _ hx)
    rw [Lib.indexByte, if_neg (by simpa using h b (List.mem_cons_self ..)), ih]
    rfl
theorem index_cut (c : UInt8) : ∀ (h t : List UInt8), (∀ b ∈ h, b ≠ c) → Lib.indexByte (h ++ c :: t) c = (h.length : Int)
  | [], t, _ => by rw [List.nil_append, Lib.indexByte, if_pos (by simp)]; rfl
  | b :: h, t, k => by
    have ih := index_cut c h t fun x hx => k x (List.mem_cons_of_mem _ hx)
    rw [List.cons_append, Lib.indexByte, if_neg (by simpa using k b (List.mem_cons_self ..)), ih, if_neg (by simp), List.length_cons]
    push_cast
    rfl
theorem cut_is (l : List UInt8) (hs : l.length ≤ 1000000000) (c : UInt8) : strings_Cut.f (mk l) (⟨#[c]⟩ : ByteArray) = some (match cutAt c l with
    | none => (mk l, (⟨#[]⟩ : ByteArray), false)
    | some (h, t) => (mk h, mk t, true)) := by
  have ix : stringslite_Index.f (mk l) (⟨#[c]⟩ : ByteArray) = some (Lib.indexByte l c) := by
    unfold stringslite_Index.f
    rw [if_pos (show (⟨#[c]⟩ : ByteArray).data.toList.length = 1 from rfl), mk_list]
    rfl
  have h1 : ((⟨#[c]⟩ : ByteArray).size : Int) = 1 := rfl
  unfold strings_Cut.f stringslite_Cut.f
  rw [ix, Option.bind_some]
  cases k : cutAt c l with
  | none =>
    rw [index_clean c l (cutAt_none k), if_neg (by omega), Option.bind_some]
  | some p =>
    obtain ⟨h, t⟩ := p
    obtain ⟨e1, e2⟩ := cutAt_some k
    have ll : l.length = h.length + (t.length + 1) := by rw [e1, List.length_append, List.length_cons]
    have w1 : wrap64 ((h.length : Int) + 1) = ((h.length + 1 : Nat) : Int) := by unfold wrap64; push_cast; omega
    have ei : Lib.indexByte l c = (h.length : Int) := by rw [e1]; exact index_cut c h t e2
    rw [ei, if_pos (by omega), if_pos (by omega), mk_size, if_pos (by omega), h1, w1, if_pos (by omega), if_pos (by omega), Option.bind_some, Int.toNat_natCast, Int.toNat_natCast, extract_mk, extract_mk, List.drop_zero, List.take_length, e1]
    rw [List.take_left, show h ++ c :: t = (h ++ [c]) ++ t by simp, List.drop_left' (by simp)]
def parseRow (l : List UInt8) : ByteArray × Int × Int × Int := match cutAt 32 l with
  | none => ((⟨#[]⟩ : ByteArray), 0, 0, 100)
  | some (h, t) => if mayId (mk h) = true then (if (parseOf (nb (mk t))).2.2 = 0 then (mk h, (parseOf (nb (mk t))).1, (parseOf (nb (mk t))).2.1, 0) else ((⟨#[]⟩ : ByteArray), 0, 0, 102)) else ((⟨#[]⟩ : ByteArray), 0, 0, 101)
theorem mayId_f (s : ByteArray) (hs : s.size ≤ 1000000000) : tag_MayId.f s = some (mayId s) := if_pos hs
theorem parse_is (l : List UInt8) (hs : l.length ≤ 1000000000) : row_Parse.f (mk l) = some (parseRow l) := by
  unfold row_Parse.f parseRow
  rw [cut_is l hs, Option.bind_some]
  cases k : cutAt 32 l with
  | none =>
    dsimp only
    rw [parse_num _ (by show 0 ≤ _; omega), Option.bind_some, if_neg (by decide)]
  | some p =>
    obtain ⟨h, t⟩ := p
    obtain ⟨e1, e2⟩ := cutAt_some k
    have ll : l.length = h.length + (t.length + 1) := by rw [e1, List.length_append, List.length_cons]
    dsimp only
    rw [parse_num _ (by rw [mk_size]; omega), Option.bind_some, if_pos rfl, mayId_f _ (by rw [mk_size]; omega), Option.bind_some]
    by_cases m : mayId (mk h) = true
    · rw [if_pos m, if_pos m]
      by_cases e : (parseOf (nb (mk t))).2.2 = 0
      · rw [if_pos e, if_pos e]
      · rw [if_neg e, if_neg e]
    · rw [if_neg m, if_neg m]
def rowText (id : ByteArray) (a b : Int) : ByteArray × Int := if mayId id = true then ((id ++ (⟨#[32]⟩ : ByteArray)) ++ strOfNums (asc (dec (val a b))), 0) else ((⟨#[]⟩ : ByteArray), 101)
def oneB (h : List UInt8) : ByteArray × Int × Int × Bool × Int :=
  if wrongOf h = 0 then (if kindOf h = 2 then ((parseRow h).1, (parseRow h).2.1, (parseRow h).2.2.1, ((parseRow h).2.2.2 == 0), (parseRow h).2.2.2) else ((⟨#[]⟩ : ByteArray), 0, 0, false, 0)) else ((⟨#[]⟩ : ByteArray), 0, 0, false, wrongOf h)
theorem of_is (n : Int) (h : List UInt8) (hs : h.length ≤ 1000000000) : row_Of.f n (mk h) (kindOf h) (wrongOf h) = some (oneB h) := by
  unfold row_Of.f oneB
  by_cases c : wrongOf h = 0
  · rw [if_pos c, if_pos c]
    by_cases q : kindOf h = 2
    · rw [if_pos q, if_pos q, parse_is h hs, Option.bind_some]
    · rw [if_neg q, if_neg q]
  · rw [if_neg c, if_neg c]
end Go.Proofs.YtpkjpiphjdpegaaDoor.P
namespace Go.Proofs.YtpkjpiphjdpegaaDoor.P
open Go.RowKit Go.Proofs.YtpkjpiphjdpegaaDoorW.PrintWords Go.Proofs.YtpkjpiphjdpegaaDoorW.PrintLast Go.Proofs.YtpkjpiphjdpegaaDoorW.PrintMore
set_option linter.unusedVariables false
set_option linter.unusedSimpArgs false
theorem mayId_facts (id : ByteArray) (m : mayId id = true) : ∃ L : List Int, L.any oddR = false ∧ L.flatMap enc = nb id ∧ (∀ c ∈ L, 45 ≤ c) ∧ 1 ≤ L.length ∧ L.length ≤ 24 := by
  unfold mayId at m
  rw [Bool.and_eq_true, Bool.and_eq_true, decide_eq_true_eq, List.all_eq_true] at m
  obtain ⟨⟨v, a⟩, l⟩ := m
  obtain ⟨h1, h2, h3, h4⟩ := runes_enc id id.size 0 (by omega) v
  refine ⟨runesAt id id.size 0, h1, h2, fun c hc => ?_, l.1, l.2⟩
  have := a c hc
  unfold withinR at this
  rw [decide_eq_true_eq] at this
  omega
theorem mayId_one (id : ByteArray) (m : mayId id = true) : 1 ≤ id.data.toList.length ∧ id.size ≤ 96 := by
  obtain ⟨L, h1, h2, h3, h4, h5⟩ := mayId_facts id m
  have hl := nb_length id
  have e : id.data.toList.length = id.size := Array.length_toList
  have f4 : ∀ L : List Int, (L.flatMap enc).length ≤ 4 * L.length := by
    intro L
    induction L with
    | nil => simp
    | cons c L ih =>
      have := enc_len c
      rw [List.flatMap_cons, List.length_append, List.length_cons]; omega
  have f1 : ∀ L : List Int, L.any oddR = false → (∀ c ∈ L, 45 ≤ c) → L.length ≤ (L.flatMap enc).length := by
    intro L
    induction L with
    | nil => simp
    | cons c L ih =>
      intro ho hc
      rw [List.any_cons, Bool.or_eq_false_iff] at ho
      have h45 := hc c (List.mem_cons_self ..)
      have := ih ho.2 fun x hx => hc x (List.mem_cons_of_mem _ hx)
      have n1 := (enc_ne c.toNat (by rw [show ((c.toNat : Nat) : Int) = c by omega]; exact ho.1)).1
      rw [show ((c.toNat : Nat) : Int) = c by omega] at n1
      rw [List.flatMap_cons, List.length_append, List.length_cons]; omega
  have a := f4 L
  have b := f1 L h1 h3
  rw [h2, hl] at a b
  omega
theorem parse_line (l : List UInt8) (h : (parseRow l).2.2.2 = 0) : rowText (parseRow l).1 (parseRow l).2.1 (parseRow l).2.2.1 = (mk l, 0) ∧ U64 (parseRow l).2.1 ∧ U64 (parseRow l).2.2.1 ∧ mayId (parseRow l).1 = true := by
  unfold parseRow at h ⊢
  cases k : cutAt 32 l with
  | none => rw [k] at h; exact absurd h (by decide)
  | some p =>
    obtain ⟨x, t⟩ := p
    rw [k] at h
    dsimp only at h ⊢
    by_cases m : mayId (mk x) = true
    · rw [if_pos m] at h ⊢
      by_cases z : (parseOf (nb (mk t))).2.2 = 0
      · rw [if_pos z]
        dsimp only
        obtain ⟨e1, e2⟩ := cutAt_some k
        have nn : noNum (nb (mk t)) = false := by
          cases q : noNum (nb (mk t)) with
          | false => rfl
          | true => unfold parseOf at z; rw [if_pos q] at z; exact absurd z (by decide)
        have lt : valD (unasc (nb (mk t))) < m128 := by
          by_cases q : valD (unasc (nb (mk t))) < m128
          · exact q
          · unfold parseOf at z; rw [if_neg (by rw [nn]; decide), if_neg q] at z; exact absurd z (by decide)
        have ge := parse_range _ nn
        have pe : parseOf (nb (mk t)) = (hiOf (valD (unasc (nb (mk t)))), loOf (valD (unasc (nb (mk t)))), 0) := by
          unfold parseOf
          rw [if_neg (by rw [nn]; decide), if_pos lt]
        rw [pe]
        dsimp only
        have vv : val (hiOf (valD (unasc (nb (mk t))))) (loOf (valD (unasc (nb (mk t))))) = valD (unasc (nb (mk t))) := by
          unfold val hiOf loOf
          omega
        refine ⟨?_, ?_, ?_, m⟩
        · unfold rowText
          rw [if_pos m, vv, text_parse _ nn lt, nb_str, e1]
          congr 1
          apply ByteArray.ext
          apply Array.toList_inj.1
          rw [ByteArray.data_append, ByteArray.data_append, Array.toList_append, Array.toList_append, mk_list, mk_list, mk_list, List.append_assoc]
          rfl
        · unfold U64 hiOf
          unfold m128 at lt
          constructor <;> omega
        · unfold U64 loOf
          constructor <;> omega
      · rw [if_neg z] at h; exact absurd h (by decide)
    · rw [if_neg m] at h; exact absurd h (by decide)
theorem parse_bad (l : List UInt8) (h : (parseRow l).2.2.2 ≠ 0) : parseRow l = ((⟨#[]⟩ : ByteArray), 0, 0, (parseRow l).2.2.2) ∧ ((parseRow l).2.2.2 = 100 ∨ (parseRow l).2.2.2 = 101 ∨ (parseRow l).2.2.2 = 102) := by
  unfold parseRow at h ⊢
  cases k : cutAt 32 l with
  | none => exact ⟨rfl, .inl rfl⟩
  | some p =>
    obtain ⟨x, t⟩ := p
    rw [k] at h
    dsimp only at h ⊢
    by_cases m : mayId (mk x) = true
    · rw [if_pos m] at h ⊢
      by_cases z : (parseOf (nb (mk t))).2.2 = 0
      · rw [if_pos z] at h; exact absurd rfl h
      · rw [if_neg z]; exact ⟨rfl, .inr (.inr rfl)⟩
    · rw [if_neg m]; exact ⟨rfl, .inr (.inl rfl)⟩
end Go.Proofs.YtpkjpiphjdpegaaDoor.P
namespace Go.Proofs.YtpkjpiphjdpegaaDoor.P
open Go.RowKit Go.Proofs.YtpkjpiphjdpegaaDoorW.PrintWords Go.Proofs.YtpkjpiphjdpegaaDoorW.PrintLast Go.Proofs.YtpkjpiphjdpegaaDoorW.PrintMore
set_option linter.unusedVariables false
set_option linter.unusedSimpArgs false
theorem tail_lenN (n : Nat) : ∀ r : List ByteArray, (∀ x ∈ r, x.size ≤ n) → (Lib.joinTail [10] (r.map (·.data.toList))).length ≤ (n + 1) * r.length
  | [], _ => by simp [Lib.joinTail]
  | y :: r, h => by
    have a := tail_lenN n r fun x hx => h x (List.mem_cons_of_mem _ hx)
    have b := h y (List.mem_cons_self ..)
    have e : y.data.toList.length = y.size := Array.length_toList
    rw [List.map_cons, tail_cons, List.length_cons, List.length_append, List.length_cons, e, Nat.mul_succ]
    omega
theorem join_lenN (n : Nat) (l : List ByteArray) (h : ∀ x ∈ l, x.size ≤ n) : (Lib.join (l.map (·.data.toList)) [10]).length ≤ (n + 1) * l.length := by
  cases l with
  | nil => simp [Lib.join]
  | cons y r =>
    have a := tail_lenN n r fun x hx => h x (List.mem_cons_of_mem _ hx)
    have b := h y (List.mem_cons_self ..)
    have e : y.data.toList.length = y.size := Array.length_toList
    rw [List.map_cons, joinB_cons, List.length_append, List.length_cons, e, Nat.mul_succ]
    omega
def remL (s : ByteArray) : List UInt8 := 35 :: 32 :: s.data.toList
theorem rem_is (s : ByteArray) : (⟨#[35, 32]⟩ : ByteArray) ++ s = mk (remL s) := by
  apply ByteArray.ext
  apply Array.toList_inj.1
  rw [ByteArray.data_append, Array.toList_append]
  rfl
theorem one_empty : oneB [] = ((⟨#[]⟩ : ByteArray), 0, 0, false, 0) := by
  have w : wrongOf [] = 0 := by
    unfold wrongOf
    rw [Lib.validD_nil, if_pos rfl]
    rfl
  unfold oneB
  rw [if_pos w, if_neg (by decide)]
theorem one_rem (s : ByteArray) (h : wrongOf (remL s) = 0) : oneB (remL s) = ((⟨#[]⟩ : ByteArray), 0, 0, false, 0) := by
  have k : kindOf (remL s) = 1 := by
    show (if (35 : UInt8) = 35 then (1 : Int) else 2) = 1
    rfl
  unfold oneB
  rw [if_pos h, k, if_neg (by decide)]
end Go.Proofs.YtpkjpiphjdpegaaDoor.P
