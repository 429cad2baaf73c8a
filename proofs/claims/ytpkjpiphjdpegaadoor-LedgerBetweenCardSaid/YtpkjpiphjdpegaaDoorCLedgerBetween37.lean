/- A program of this session wrote this text out of the session's own texts. (part 37 of 46) -/
import Derived.Test.YtpkjpiphjdpegaaDoorCLedgerBetween29
import Derived.Test.YtpkjpiphjdpegaaDoorCLedgerBetween36
namespace Go.Proofs.YtpkjpiphjdpegaaDoor.P
open Go.RowKit Go.Proofs.YtpkjpiphjdpegaaDoor.RF Go.Proofs.YtpkjpiphjdpegaaDoorW.PrintWords Go.Proofs.YtpkjpiphjdpegaaDoorW.PrintLast Go.Proofs.YtpkjpiphjdpegaaDoorW.PrintMore
open Go.Maps
set_option linter.unusedVariables false
set_option linter.unusedSimpArgs false
def openW (h : Nat) (w : World) : World := (w.alloc (.map #[] 0)).alloc (.cells #[.int .i64 (2 ^ h : Nat), .slice none 0 0, .map (some w.heap.size), .int .u64 0, .int .u64 0] 113)
theorem openW_size (h : Nat) (w : World) : (openW h w).heap.size = w.heap.size + 2 := by simp [openW]
theorem openW_below (h : Nat) (w : World) : Below w.heap.size w (openW h w) := below_alloc (below_alloc (Below.refl _ _) _) _
theorem openW_book (n0 Bx h : Nat) (w : World) (hn : n0 ≤ w.heap.size) : Book n0 Bx (w.heap.size + 1) w.heap.size ((2 ^ h : Nat) : Int) [] (openW h w) := book_opened n0 Bx _ w hn
def ChkR (most : Int) (w : World) (l : List S44) (r1 r2 : Int) (k : Nat) (W : World) : Prop :=
  k ≤ l.length ∧ Good most (l.take k) ∧ chkL most ((k : Int) + 1) (l.take k) (l.drop k) = (r1, r2) ∧ Book w.heap.size w.heap.size (w.heap.size + 1) w.heap.size most (l.take k) W ∧ Below w.heap.size w W ∧ w.heap.size + 2 ≤ W.heap.size
def ChkPost (w : World) (r1 r2 : Int) (e : Ending) (W : World) : Prop := e = .returned (.tuple #[.int .i64 r1, .int .i64 r2]) ∧ Below w.heap.size w W
theorem put_e {n0 Bx Pb B : Nat} {most : Int} {rows : List S44} {y : S44} {W : World} {pe : Int} (he : putErr most rows y = pe) (hb : Book n0 Bx Pb B most rows W) (hn0 : n0 ≤ W.heap.size) (hx : Bx < W.heap.size) (hl : rows.length ≤ 100000) (hs0 : 0 ≤ sumOf rows) (hs1 : sumOf rows < m128) (hy : okA y) (hys : y.f0.size ≤ maxLen) :
    Calls Tryd.prog 70 #[.pointer (some ⟨Pb, 0, none⟩), .agg #[.string y.f0, .int .u64 y.f1.f0, .int .u64 y.f1.f1]] W fun e W' => e = .returned (.int .i64 pe) ∧ Aside0 ((pe ≠ 0 → Below W.heap.size W W') ∧ (pe = 0 → Below n0 W W' ∧ Kept Bx Pb B W W' ∧ Book n0 Bx Pb B most (rows ++ [y]) W')) := by
  refine (put_is n0 Bx Pb B most rows y W hb hn0 hx hl hs0 hs1 hy hys).mono fun e W' q => ?_
  unfold PutPost at q
  rw [he] at q
  exact ⟨q.1, ⟨q.2⟩⟩
set_option maxRecDepth 100000 in
set_option maxHeartbeats 8000000 in
theorem check_walk (A : Option Addr) (c : Nat) (l : List S44) (h : Nat) (hh : h ≤ 10) (w : World) (hr0 : Kd.C k44 w A l.length l) (hc : l.length ≤ c) (hl : l.length ≤ 1000000) (hy : ∀ y ∈ l, (y.f0.size ≤ 1000000000 ∧ U64 y.f1.f0 ∧ U64 y.f1.f1)) (hG : GT w) (r1 r2 : Int) (hR : chkL ((2 ^ h : Nat) : Int) 1 [] l = (r1, r2)) :
    Calls Tryd.prog 30 #[.slice A l.length c, .int .i64 (h : Int)] w (ChkPost w r1 r2) := by
  have hm : ((2 ^ h : Nat) : Int) ≤ 1024 := by
    have q : h = 0 ∨ h = 1 ∨ h = 2 ∨ h = 3 ∨ h = 4 ∨ h = 5 ∨ h = 6 ∨ h = 7 ∨ h = 8 ∨ h = 9 ∨ h = 10 := by omega
    rcases q with rfl | rfl | rfl | rfl | rfl | rfl | rfl | rfl | rfl | rfl | rfl <;> decide
  have HS := Aside0.mk (And.intro (openW_size h w) (And.intro (openW_below h w) (And.intro (openW_book w.heap.size w.heap.size h w (Nat.le_refl _)) (And.intro hR hm))))
  have HM0 := Aside0.mk (show (0 : Int) ≤ ((2 ^ h : Nat) : Int) from Int.natCast_nonneg _)
  clear hR hm
  go_enter Tryd.func30, Tryd.ntmps30
  go_wp2_with (first | (go_at_call 69; (with_reducible refine (opened_good h hh _).mono ?_); rintro e W1 ⟨rfl, rfl⟩))
  obtain ⟨most, hmost⟩ : ∃ m, ((2 ^ h : Nat) : Int) = m := ⟨_, rfl⟩
  change Code.wp _ _ _ _ (openW h w)
  rw [hmost] at HS HM0
  clear hmost
  generalize openW h w = W1 at *
  go_loopw [21] (fun i W => ∃ k : Nat, i = .int .i64 (k : Int) ∧ Aside0 (ChkR most w l r1 r2 k W)) (fun i W => l.length - (intOf i).toNat)
  case atStart =>
    refine ⟨0, rfl, ⟨Nat.zero_le _, good_nil HM0.out, HS.out.2.2.2.1, HS.out.2.2.1, HS.out.2.1, by have := HS.out.1; omega⟩⟩
  case round =>
    obtain ⟨k, rfl, HRel⟩ := hrel
    obtain ⟨hk, hg, hch, hbk, hbe, hsz⟩ := HRel.out
    by_cases hlt : k < l.length
    · have hC := Kd.C_below hr0 hbe
      obtain ⟨ad, eA, x0, x1, x2⟩ := at_T44 hC (k : Int) (by omega) (by omega)
      subst eA
      rw [rd44 l k hlt, Int.toNat_natCast] at x0 x1 x2
      have hm : l[k] ∈ l := List.getElem_mem hlt
      have tk : l.take (k + 1) = l.take k ++ [l[k]] := List.take_succ_eq_append_getElem hlt
      have nx : l.drop k = l[k] :: l.drop (k + 1) := List.drop_eq_getElem_cons hlt
      obtain ⟨y, hyk⟩ : ∃ y, l[k] = y := ⟨_, rfl⟩
      rw [hyk] at x0 x1 x2 hm tk nx
      obtain ⟨y1, y2⟩ := hy y hm
      have hgl := hg.len
      have hgs := hg.sum
      have hg0 := sumOf_ge (l.take k) fun z hz => (hy z (List.mem_of_mem_take hz)).2
      rw [nx, chkL] at hch
      have hlen : (l.take k).length = k := by rw [List.length_take]; omega
      obtain ⟨pe, hpe⟩ : ∃ pe, putErr most (l.take k) y = pe := ⟨_, rfl⟩
      rw [hpe] at hch
      have hys : y.f0.size ≤ maxLen := by unfold maxLen; omega
      have hk' : (k : Int) < (l.length : Int) := by omega
      have hk0 : (0 : Int) ≤ (k : Int) := by omega
      have hkb : (k : Int) ≤ 1000000 := by omega
      have hxs : w.heap.size < wr.heap.size := by omega
      have hll : (l.take k).length ≤ 100000 := by have := HS.out.2.2.2.2; omega
      have HP := Aside0.mk hpe
      have HBK := Aside0.mk hbk
      have HBE := Aside0.mk hbe
      have HSS := Aside0.mk (And.intro hg0 hgs)
      have HY := Aside0.mk (And.intro y1 (And.intro y2 hys))
      have HTK := Aside0.mk tk
      have HG := Aside0.mk hg
      have HLL := Aside0.mk hll
      have HXS := Aside0.mk hxs
      clear hpe hbk hbe hg0 hgs y1 y2 hys tk nx hg hgl hlen hsz hll hxs HRel hC hyk hm
      by_cases m : mayId y.f0 = true
      · have hmi : tag_MayId.f y.f0 = some true := (mayId_f y.f0 HY.out.1).trans (by rw [m])
        rw [if_pos m] at hch
        clear m
        by_cases z : pe = 0
        · subst z
          rw [if_pos rfl] at hch
          have HCH := Aside0.mk hch
          clear hch
          go_wp2_with (first
            | (go_at_call 51; (with_reducible refine (tag_MayId.calls y.f0 _ _ (gt_same hG (Nat.le_refl _) (below_alloc HBE.out _)) hmi).mono ?_); rintro e W2 ⟨rfl, hb2⟩; have f0 := (blk_cell (blk_below (blk_new wr (.cells #[.string y.f0, .int .u64 y.f1.f0, .int .u64 y.f1.f1] 44)) hb2) 0).trans (show _ = some (Value.string y.f0) from rfl); have f1 := (blk_cell (blk_below (blk_new wr (.cells #[.string y.f0, .int .u64 y.f1.f0, .int .u64 y.f1.f1] 44)) hb2) 1).trans (show _ = some (Value.int .u64 y.f1.f0) from rfl); have f2 := (blk_cell (blk_below (blk_new wr (.cells #[.string y.f0, .int .u64 y.f1.f0, .int .u64 y.f1.f1] 44)) hb2) 2).trans (show _ = some (Value.int .u64 y.f1.f1) from rfl); have q2 : wr.heap.size + 1 ≤ W2.heap.size := (by have := hb2.size; rwa [World.size_alloc] at this); have hs2 : w.heap.size < W2.heap.size := Nat.lt_of_lt_of_le HXS.out (Nat.le_trans (Nat.le_succ _) q2))
            | fail)
          refine (put_e (pe := 0) HP.out (book_below (book_below HBK.out (below_alloc (Below.refl _ _) (.cells #[.string y.f0, .int .u64 y.f1.f0, .int .u64 y.f1.f1] 44))) hb2) (Nat.le_of_lt hs2) hs2 HLL.out HSS.out.1 HSS.out.2 HY.out.2.1 HY.out.2.2).mono ?_
          rintro e W3 ⟨rfl, hp3⟩
          go_wp2_with fail
          go_roundw
          case rel =>
            obtain ⟨g1, g2, g3⟩ := hp3.out.2 (by first | exact trivial | rfl)
            have bw := below_alloc HBE.out (.cells #[.string y.f0, .int .u64 y.f1.f0, .int .u64 y.f1.f1] 44)
            refine ⟨k + 1, by go_num, ⟨⟨by omega, ?_, ?_, ?_, ?_, ?_⟩⟩⟩
            · rw [HTK.out]; exact (put_ok HG.out).1 HP.out
            · rw [HTK.out]; exact_mod_cast HCH.out
            · rw [HTK.out]; exact g3
            · exact (bw.trans (hb2.mono (by have := HXS.out; rw [World.size_alloc]; omega))).trans g1
            · have := g2.1; have := HXS.out; omega
          case measure => simp [intOf]; omega
        · have zb : (pe != 0) = true := by simp [z]
          rw [if_neg z] at hch
          obtain ⟨e1, e2⟩ := Prod.mk.inj hch
          have HZ := Aside0.mk z
          have HE := Aside0.mk (And.intro e1 e2)
          clear hch e1 e2 z
          go_wp2_with (first
            | (go_at_call 51; (with_reducible refine (tag_MayId.calls y.f0 _ _ (gt_same hG (Nat.le_refl _) (below_alloc HBE.out _)) hmi).mono ?_); rintro e W2 ⟨rfl, hb2⟩; have f0 := (blk_cell (blk_below (blk_new wr (.cells #[.string y.f0, .int .u64 y.f1.f0, .int .u64 y.f1.f1] 44)) hb2) 0).trans (show _ = some (Value.string y.f0) from rfl); have f1 := (blk_cell (blk_below (blk_new wr (.cells #[.string y.f0, .int .u64 y.f1.f0, .int .u64 y.f1.f1] 44)) hb2) 1).trans (show _ = some (Value.int .u64 y.f1.f0) from rfl); have f2 := (blk_cell (blk_below (blk_new wr (.cells #[.string y.f0, .int .u64 y.f1.f0, .int .u64 y.f1.f1] 44)) hb2) 2).trans (show _ = some (Value.int .u64 y.f1.f1) from rfl); have q2 : wr.heap.size + 1 ≤ W2.heap.size := (by have := hb2.size; rwa [World.size_alloc] at this); have hs2 : w.heap.size < W2.heap.size := Nat.lt_of_lt_of_le HXS.out (Nat.le_trans (Nat.le_succ _) q2))
            | fail)
          refine (put_e (pe := pe) HP.out (book_below (book_below HBK.out (below_alloc (Below.refl _ _) (.cells #[.string y.f0, .int .u64 y.f1.f0, .int .u64 y.f1.f1] 44))) hb2) (Nat.le_of_lt hs2) hs2 HLL.out HSS.out.1 HSS.out.2 HY.out.2.1 HY.out.2.2).mono ?_
          rintro e W3 ⟨rfl, hp3⟩
          go_wp2_with fail
          go_ret2
          have g1 := hp3.out.1 HZ.out
          have bw := below_alloc HBE.out (.cells #[.string y.f0, .int .u64 y.f1.f0, .int .u64 y.f1.f1] 44)
          refine ⟨by rw [← HE.out.1, ← HE.out.2]; rfl, (bw.trans (hb2.mono (by have := HXS.out; rw [World.size_alloc]; omega))).trans (g1.mono (by omega))⟩
      · have hmi : tag_MayId.f y.f0 = some false := (mayId_f y.f0 HY.out.1).trans (by simpa using m)
        rw [if_neg m] at hch
        obtain ⟨e1, e2⟩ := Prod.mk.inj hch
        have HE := Aside0.mk (And.intro e1 e2)
        clear hch e1 e2 m
        go_wp2_with (first
          | (go_at_call 51; (with_reducible refine (tag_MayId.calls y.f0 _ _ (gt_same hG (Nat.le_refl _) (below_alloc HBE.out _)) hmi).mono ?_); rintro e W2 ⟨rfl, hb2⟩; have f0 := (blk_cell (blk_below (blk_new wr (.cells #[.string y.f0, .int .u64 y.f1.f0, .int .u64 y.f1.f1] 44)) hb2) 0).trans (show _ = some (Value.string y.f0) from rfl); have f1 := (blk_cell (blk_below (blk_new wr (.cells #[.string y.f0, .int .u64 y.f1.f0, .int .u64 y.f1.f1] 44)) hb2) 1).trans (show _ = some (Value.int .u64 y.f1.f0) from rfl); have f2 := (blk_cell (blk_below (blk_new wr (.cells #[.string y.f0, .int .u64 y.f1.f0, .int .u64 y.f1.f1] 44)) hb2) 2).trans (show _ = some (Value.int .u64 y.f1.f1) from rfl); have q2 : wr.heap.size + 1 ≤ W2.heap.size := (by have := hb2.size; rwa [World.size_alloc] at this); have hs2 : w.heap.size < W2.heap.size := Nat.lt_of_lt_of_le HXS.out (Nat.le_trans (Nat.le_succ _) q2)))
        go_ret2
        have bw := below_alloc HBE.out (.cells #[.string y.f0, .int .u64 y.f1.f0, .int .u64 y.f1.f1] 44)
        exact ⟨by rw [← HE.out.1, ← HE.out.2]; rfl, bw.trans (hb2.mono (by have := HXS.out; rw [World.size_alloc]; omega))⟩
    · have hk2 : k = l.length := by omega
      rw [hk2, List.drop_length, chkL] at hch
      obtain ⟨e1, e2⟩ := Prod.mk.inj hch
      have HE := Aside0.mk (And.intro e1 (And.intro e2 hbe))
      have hk' : ¬ (k : Int) < (l.length : Int) := by omega
      clear hch e1 e2 hbk hg HRel
      go_wp2_with fail
      go_ret2
      exact ⟨by rw [← HE.out.1, ← HE.out.2.1]; rfl, HE.out.2.2⟩
theorem ledger_Check.calls (A0 : Option Addr) (c0 : Nat) (l0 : List S44) (a1 : Int) (r1 r2 : Int) (w : World) (hr0 : Kd.C k44 w A0 l0.length l0) (hc0 : l0.length ≤ c0) (hG : GT w) (h : ledger_Check.f l0 a1 = some (r1, r2)) :
    Calls Tryd.prog 30 #[.slice A0 l0.length c0, .int .i64 a1] w fun e w' => e = .returned (.tuple #[.int .i64 r1, .int .i64 r2]) ∧ Below w.heap.size w w' := by
  unfold ledger_Check.f at h
  split at h
  · rename_i hc
    have e := Option.some.inj h
    by_cases hb : a1 < 0 ∨ 10 < a1
    · rw [checkOf_bad l0 a1 hb] at e
      obtain ⟨rfl, rfl⟩ := Prod.mk.inj e
      go_enter Tryd.func30, Tryd.ntmps30
      go_wp2_with (first | (go_at_call 69; (with_reducible refine (opened_bad a1 hb _).mono ?_); rintro e W1 ⟨rfl, rfl⟩))
      go_ret2
      exact ⟨rfl, Below.refl _ _⟩
    · rw [checkOf_ok l0 a1 hb] at e
      obtain ⟨m, rfl⟩ : ∃ m : Nat, a1 = (m : Int) := ⟨a1.toNat, by omega⟩
      rw [Int.toNat_natCast] at e
      exact check_walk A0 c0 l0 m (by omega) w hr0 hc0 hc.1 hc.2 hG r1 r2 e
  · cases h
end Go.Proofs.YtpkjpiphjdpegaaDoor.P
