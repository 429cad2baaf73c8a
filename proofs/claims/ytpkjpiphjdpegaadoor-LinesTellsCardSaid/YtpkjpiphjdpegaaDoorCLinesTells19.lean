/- A program of this session wrote this text out of the session's own texts. (part 19 of 20) -/
import Derived.Test.YtpkjpiphjdpegaaDoorCLinesTells4
import Derived.Test.YtpkjpiphjdpegaaDoorCLinesTells5
import Derived.Test.YtpkjpiphjdpegaaDoorCLinesTells14
import Derived.Test.YtpkjpiphjdpegaaDoorCLinesTells15
import Derived.Test.YtpkjpiphjdpegaaDoorCLinesTells16
import Derived.Test.YtpkjpiphjdpegaaDoorCLinesTells17
import Derived.Test.YtpkjpiphjdpegaaDoorCLinesTells18
namespace Go.Proofs.YtpkjpiphjdpegaaDoor.P
open Go.RowKit Go.Shelf Go.Proofs.YtpkjpiphjdpegaaDoor.RF Go.Proofs.YtpkjpiphjdpegaaDoorW.PrintWords Go.Proofs.YtpkjpiphjdpegaaDoorW.PrintLast Go.Proofs.YtpkjpiphjdpegaaDoorW.PrintMore
attribute [local go_sem] Oper.semAt_some
attribute [local go_sem high] eqA56
attribute [local go_sem] max2_int min2_int max_two min_two
set_option linter.unusedVariables false
set_option linter.unusedSimpArgs false
theorem tells_at (s : ByteArray) (hs : s.size ≤ 3000) (L : List (List UInt8)) (hL : splitB s.data.toList = L) (i : Nat) (hi : i < L.length) :
    ∃ (e : ByteArray) (kd er : Int), rd_T56 (allL s) (i : Int) = ⟨(i : Int) + 1, e, kd, er⟩ ∧ rdOf ByteArray.empty (L.map mk) (i : Int) = e ∧ paymasterref09_Kind.f e = some kd ∧ paymasterref09_Wrong.f 10000 e = some er ∧ lines_Kind.f e = some kd := by
  have hd : s.data.toList.length = s.size := Array.length_toList
  have hm : L.getD i [] ∈ L := by rw [List.getD_eq_getElem?_getD, List.getElem?_eq_getElem hi]; exact List.getElem_mem hi
  have hb : (L.getD i []).length ≤ 3000 := by have := splitB_size s.data.toList (L.getD i []) (by rw [hL]; exact hm); omega
  refine ⟨mk (L.getD i []), kindOf (L.getD i []), wrongOf (L.getD i []), ?_, rdOf_mk L i hi, refKind_is _ (by omega), refWrong_is _ (by omega) _ (by omega), kind_is _ (by omega)⟩
  unfold allL
  rw [hL, rd_line L i hi]
  rfl
theorem fn_nil (cb : Array Value) (W : World) : (binOp .eql 60 (.func (.func 73) #[] cb) .nilFunc).run Tryd.prog W = .ok (.bool false) W := by
  have hu := Tryd.underlying60
  have h : (Op.equalIn (9999 + 1) 60 (.func (.func 73) #[] cb) .nilFunc).run Tryd.prog W = .ok false W := by
    unfold Op.equalIn
    simp [run_underlying hu]
  have h' : (Op.equalIn Op.maxDepth 60 (.func (.func 73) #[] cb) .nilFunc).run Tryd.prog W = .ok false W := h
  simp [binOp, Op.equal, go_sem, h']
theorem cellBl {W W' : World} (hb : Below W.heap.size W W') {a : Addr} {v : Value} (h : W.cell? a = some v) : W'.cell? a = some v := (hb.cell (World.block_lt_of_cell? _ _ h)).trans h
def InvT (n1 : Nat) (wr W0 : World) (sm : Int) (pre : List S56) (W : World) : Prop :=
  (Boxed W n1 3 (.int .i64 (pre.length : Int)) ∧ Below n1 wr W ∧ W0.heap.size ≤ W.heap.size) ∧ (pre.length = 0 ∨ (pre.length : Int) ≤ sm)
def InvE (n1 : Nat) (wr : World) (sm : Int) (As : List S56) (c : Code) (pre : List S56) (W : World) : Prop :=
  c = .exit 2 ∧ ∃ p x, pre = p ++ [x] ∧ (p.length = 0 ∨ (p.length : Int) ≤ sm) ∧ (sm ≤ (p.length : Int) ∨ x ≠ rd_T56 As (p.length : Int)) ∧ Boxed W n1 3 (.int .i64 (p.length : Int)) ∧ Below n1 wr W
theorem invT_ab (n1 : Nat) (wr W0 : World) (sm : Int) (hn : n1 ≤ wr.heap.size) (h0 : n1 ≤ W0.heap.size) : AbX (n1 + 1) W0.heap.size (InvT n1 wr W0 sm) :=
  AbX.and (AbX.and (boxed_ab _ _ _ _ (fun pre : List S56 => .int .i64 (pre.length : Int)) (by omega)) (AbX.and (abX_below hn h0 (by omega)) (abX_size _ _ _))) (abX_pure _ _ (fun pre : List S56 => pre.length = 0 ∨ (pre.length : Int) ≤ sm))
set_option maxHeartbeats 4000000 in
set_option maxRecDepth 100000 in
theorem tells_is (s : ByteArray) (hs : s.size ≤ 3000) (sm : Int) (w : World) (hG : GT w) :
    CallsIn Fence.wide 5 Tryd.prog 6 #[.string s, .int .i64 sm] w fun e W' => e = .returned (.bool true) ∧ Below w.heap.size w W' := by
  have mixed : Tryd.prog.follows .mixedOrders = true := by kernel_rfl
  have hlen : decide ((3000 : Int) < (s.size : Int)) = false := decide_eq_false (by omega)
  have hd : s.data.toList.length = s.size := Array.length_toList
  obtain ⟨L, hL⟩ : ∃ L, splitB s.data.toList = L := ⟨_, rfl⟩
  have hnl : L.length ≤ 3001 := by have := splitB_len s.data.toList; rw [hL] at this; omega
  have hsp : paymasterref09_Split.f 10000 s = some (L.map mk) := by rw [← hL]; exact refSplit_is s (by omega) _ (by omega)
  have hal : lines_All.f s = some (allL s) := all_f s (by omega)
  have hAl : allL s = linesL 1 L := by unfold allL; rw [hL]
  obtain ⟨n, hn⟩ : ∃ n, L.length = n := ⟨_, rfl⟩
  have nL : (L.map mk).length = n := by rw [List.length_map]; exact hn
  have nA : (allL s).length = n := by rw [hAl, linesL_len]; exact hn
  have HN := Aside0.mk (And.intro hnl (And.intro hAl (And.intro hn (And.intro nA hL))))
  have HSP := Aside0.mk hsp
  have HAL := Aside0.mk hal
  have HNL := Aside0.mk nL
  have HNA := Aside0.mk nA
  clear hsp hal nL nA hAl hn hL hnl
  refine callsIn_of_wp_marks Tryd.func6 rfl trivial ?_ rfl
  simp only [Tryd.ntmps6, List.size_toArray, List.length_cons, List.length_nil, Nat.reduceAdd, Nat.reduceSub, Array.replicate_succ, Array.replicate_zero, List.push_toArray, List.append_toArray, List.nil_append, List.cons_append]
  refine wpIn_wide.2 ?_
  go_wp2_with (first
    | (go_at_call 33; (with_reducible refine (paymasterref09_Split.calls 10000 s _ _ HSP.out).mono ?_); rintro e W1 ⟨v1, rfl, hR1, hb1⟩; have hB1 := (below_alloc (Below.refl w.heap.size w) (.cells #[.int .i64 sm] 3)).trans (hb1.mono (by simp)); obtain ⟨A1, c1, e1⟩ := Kd.R_slice hR1; rw [HNL.out] at e1; subst e1)
    | (go_at_call 34; (with_reducible refine (lines_All.calls s _ _ (gt_same hG (Nat.le_refl _) hB1) HAL.out).mono ?_); rintro e W2 ⟨v2, rfl, hR2, hb2⟩; have hB2 := hB1.trans (hb2.mono hB1.size); obtain ⟨A2, c2, e2⟩ := Kd.R_slice hR2; rw [HNA.out] at e2; subst e2))
  have hC1 := Kd.C_alloc (Kd.C_below (Kd.R_reads' hR1).2.2 hb2) (.cells #[.slice A2 n c2] 53)
  have hC2 := Kd.C_alloc (Kd.R_reads' hR2).2.2 (.cells #[.slice A2 n c2] 53)
  have hb3 : Boxed (W2.alloc (.cells #[.slice A2 n c2] 53)) w.heap.size 3 (.int .i64 sm) := (((Boxed.new w 3 (.int .i64 sm)).kept (grown_below hb1 none) (by simp)).kept (grown_below hb2 none) (by simp)).alloc _
  have hb6 : Boxed (W2.alloc (.cells #[.slice A2 n c2] 53)) W2.heap.size 53 (.slice A2 n c2) := Boxed.new _ _ _
  have hB3 : Below w.heap.size w (W2.alloc (.cells #[.slice A2 n c2] 53)) := below_alloc hB2 _
  generalize W2.alloc (.cells #[.slice A2 n c2] 53) = W3 at *
  obtain ⟨p6, hp6⟩ : ∃ p, W2.heap.size = p := ⟨_, rfl⟩
  rw [hp6] at hb6 ⊢
  have HC1 := Aside0.mk hC1
  have HC2 := Aside0.mk hC2
  have HB3 := Aside0.mk hB3
  have H3 := Aside0.mk hb3
  have H6 := Aside0.mk hb6
  clear hC1 hC2 hB3 hb3 hb6 hp6 hR1 hR2 hb1 hb2 hB1 hB2
  go_loopw [7] (fun v wr => ∃ x : Int, 0 ≤ x ∧ x ≤ (n : Int) ∧ v = .int .i64 x ∧ Aside0 (Below W3.heap.size W3 wr)) (fun v wr => match v with | .int _ x => n - x.toNat | _ => 0)
  case atStart => exact ⟨0, by omega, by omega, rfl, ⟨Below.refl _ _⟩⟩
  case round =>
    obtain ⟨x, hx0, hxn, rfl, HBr⟩ := hrel
    by_cases hlt : x < (n : Int)
    · have h2 : decide (x < (n : Int)) = true := decide_eq_true hlt
      have hn3 := HN.out.1
      have hnn := HN.out.2.2.1
      obtain ⟨e, kd, er, f1, f2, f3, f4, f5⟩ := tells_at s hs L HN.out.2.2.2.2 x.toNat (by omega)
      have xt : ((x.toNat : Nat) : Int) = x := by omega
      rw [xt] at f1 f2
      obtain ⟨ad1, e1, hx1⟩ := Kd.at_string (Kd.C_below HC1.out HBr.out) x hx0 (by rw [HNL.out]; exact hlt)
      obtain ⟨ad2, e2, hy0, hy1, hy2, hy3⟩ := at_T56 (Kd.C_below HC2.out HBr.out) x hx0 (by rw [HNA.out]; exact hlt)
      cases e1
      cases e2
      rw [f1] at hy0 hy1 hy2 hy3
      rw [f2] at hx1
      have h6 := (H6.out.kept (grown_below HBr.out none) (by simp)).cell
      have hw1 : IntKind.i64.wrap (x + 1) = x + 1 := by rw [IntKind.wrap_i64]; omega
      have KF := Aside0.mk f3
      have WF := Aside0.mk f4
      have LF := Aside0.mk f5
      clear f1 f2 f3 f4 f5 xt hnn
      have p := eq_true hx0
      have q := eq_true hlt
      have z0 : (wr.alloc (.cells #[.int .i64 (x + 1), .string e, .int .u8 kd, .int .i64 er] 56)).cell? (ad1.add x.toNat) = some (.string e) := cellBl (below_alloc (Below.refl _ _) _) hx1
      have z1 := blk_new wr (.cells #[.int .i64 (x + 1), .string e, .int .u8 kd, .int .i64 er] 56)
      have y0 := (blk_cell z1 0).trans rfl
      have y1 := (blk_cell z1 1).trans rfl
      have y2 := (blk_cell z1 2).trans rfl
      have y3 := (blk_cell z1 3).trans rfl
      go_wp2
      go_region_held3 (fun w' => w'.cell? ⟨wr.heap.size, 0, none⟩ = some (.int .i64 (x + 1)) ∧ w'.cell? ⟨wr.heap.size, 1, none⟩ = some (.string e) ∧ w'.cell? ⟨wr.heap.size, 2, none⟩ = some (.int .u8 kd) ∧ w'.cell? ⟨wr.heap.size, 3, none⟩ = some (.int .i64 er) ∧ w'.cell? (ad1.add x.toNat) = some (.string e))
        ((go_split_ands; refine ⟨?_, ?_, ?_, ?_, ?_⟩ <;> (first | assumption | exact y0 | exact y1 | exact y2 | exact y3 | exact z0 | (refine cellBl hb ?_; assumption))))
        (first
          | (go_at_call 35; (with_reducible refine (paymasterref09_Kind.calls _ _ _ KF.out).mono ?_); rintro e5 w5 ⟨rfl, ⟨nd, rfl⟩⟩)
          | (go_at_call 36; (with_reducible refine (paymasterref09_Wrong.calls 10000 _ _ _ WF.out).mono ?_); rintro e6 w6 ⟨rfl, hb⟩; have n6_ := Aside0.mk (below_step (by repeat (first | (with_reducible first | exact HBr.out | apply below_alloc | apply pw_below_drewN | apply below_drew1) | exact HBr.out)) hb))
          | (go_at_call 37; (with_reducible refine (lines_Kind.calls _ _ _ LF.out).mono ?_); rintro e7 w7 ⟨rfl, hb⟩; have n7_ := Aside0.mk (below_step (by repeat (first | (with_reducible first | exact n6_.out | apply below_alloc | apply pw_below_drewN | apply below_drew1) | exact n6_.out)) hb)))
      all_goals go_wp2
      all_goals go_roundw
      case rel => exact ⟨x + 1, by omega, by omega, rfl, ⟨by repeat (first | (with_reducible first | exact n7_.out | apply below_alloc | apply pw_below_drewN | apply below_drew1) | exact n7_.out)⟩⟩
      case measure => show n - (x + 1).toNat < n - x.toNat; omega
    · have h2 : decide (x < (n : Int)) = false := decide_eq_false hlt
      have hnf := fn_nil
      go_wp2
      clear hnf
      have hw3 : Boxed wr w.heap.size 3 (.int .i64 sm) := H3.out.kept (grown_below HBr.out none) (by simp)
      have hw6 : Boxed wr p6 53 (.slice A2 n c2) := H6.out.kept (grown_below HBr.out none) (by simp)
      have hC2 := Kd.C_below HC2.out HBr.out
      have hBw : Below w.heap.size w wr := HB3.out.trans (HBr.out.mono HB3.out.size)
      have hGr : GT wr := gt_same hG (Nat.le_refl _) hBw
      have f2 : Below wr.heap.size wr ((wr.alloc (.cells #[.int .i64 0] 3)).alloc (.cells #[.string s] 9)) := below_alloc (below_alloc (Below.refl _ _) _) _
      have f9 : Boxed ((wr.alloc (.cells #[.int .i64 0] 3)).alloc (.cells #[.string s] 9)) wr.heap.size 3 (.int .i64 0) := (Boxed.new wr 3 _).alloc _
      have f10 : Boxed ((wr.alloc (.cells #[.int .i64 0] 3)).alloc (.cells #[.string s] 9)) (wr.heap.size + 1) 9 (.string s) := by
        have := Boxed.new (wr.alloc (.cells #[.int .i64 0] 3)) 9 (.string s)
        rw [World.size_alloc] at this
        exact this
      have fs : ((wr.alloc (.cells #[.int .i64 0] 3)).alloc (.cells #[.string s] 9)).heap.size = wr.heap.size + 2 := by simp
      generalize ((wr.alloc (.cells #[.int .i64 0] 3)).alloc (.cells #[.string s] 9)) = W0 at *
      refine (wpIn_wide (n := 5)).1 ?_
      refine range_own (Bx := wr.heap.size + 1) (by omega) rfl (by omega) (gf := 73) (lb := #[.pointer (some ⟨wr.heap.size + 1, 0, none⟩)]) rfl trivial (enters_of Tryd.func73 (by kernel_rfl) rfl)
        (each_stops2 4 (by omega) (wr.heap.size + 1) wr.heap.size s (by omega) W0 wr hGr (Nat.le_refl _) f2 (by omega) (by omega) f10)
        (fun h k => ⟨h.1.trans k.1, k.2.trans h.2⟩) (fun W l o o' hl ho hc hw => ⟨(Below.refl _ W).grown (grownBy_putObj' W l o') (by have := (Array.getElem?_eq_some_iff.1 ho).1; omega) (fun k e => by cases e; omega), World.putObj_heap_other (by omega)⟩) (Below.refl _ _) (fun _ => rfl)
        (fun pre W => InvT wr.heap.size wr W0 sm (pre.map Subtype.val) W)
        (fun c pre W => InvE wr.heap.size wr sm (allL s) c (pre.map Subtype.val) W)
        (fun q => (invT_ab wr.heap.size wr W0 sm (Nat.le_refl _) (by omega)) (q.map Subtype.val))
        (fun c s' W W' row hh hg hr => by
          obtain ⟨rfl, p, y, e1, e2, e3, e4, e5⟩ := hh
          exact ⟨rfl, p, y, e1, e2, e3, boxed_ab (β := Unit) (wr.heap.size + 1) W0.heap.size _ _ (fun _ => .int .i64 (p.length : Int)) (by omega) () W W' row e4 hg hr, abX_below (β := Unit) (Nat.le_refl _) (by omega) (by omega) () W W' row e5 hg hr⟩)
        ⟨⟨f9, f2, Nat.le_refl _⟩, .inl rfl⟩
        (fun y a' W => ∃ Bv, wr.heap.size + 1 < Bv ∧ W.heap[Bv]? = some (.cells (lineC y.1) 56 (0, 0)) ∧ a' = { tmps := #[.string s, .int .i64 sm, undef, .pointer (some ⟨w.heap.size, 0, none⟩), u4, .slice A1 n c1, .pointer (some ⟨p6, 0, none⟩), .int .i64 x, u8, .pointer (some ⟨wr.heap.size, 0, none⟩), .func (.func 73) #[] #[.pointer (some ⟨wr.heap.size + 1, 0, none⟩)], .pointer (some ⟨Bv, 0, none⟩), undef, undef, undef, undef, .string s, .int .i64 (s.size : Int), .bool false, .string s, .slice A1 n c1, .string s, .slice A2 n c2, .slice A2 n c2, .int .i64 (n : Int), .slice A1 n c1, .int .i64 (n : Int), .bool false, .int .i64 x, .slice A1 n c1, .int .i64 (n : Int), .bool false, u32, u33, u34, u35, u36, u37, u38, u39, u40, u41, u42, u43, u44, u45, u46, u47, u48, u49, u50, u51, u52, u53, u54, u55, u56, u57, u58, u59, u60, u61, u62, u63, u64, u65, u66, u67, u68, u69, u70, u71, u72, u73, u74, u75, u76, u77, u78, u79, u80, u81, .string s, .func (.func 73) #[] #[.pointer (some ⟨wr.heap.size + 1, 0, none⟩)], .func (.func 73) #[] #[.pointer (some ⟨wr.heap.size + 1, 0, none⟩)], .bool false, .func (.func 73) #[] #[.pointer (some ⟨wr.heap.size + 1, 0, none⟩)], lineV y.1, undef, undef, undef, undef, undef, undef, undef, undef, undef, undef, undef, undef, undef, undef, undef, undef, undef, undef, undef, undef, undef, undef, undef, undef, undef, undef, undef, undef, undef, undef, undef, undef, undef, undef, undef, undef, undef, undef, undef, undef, undef, undef, undef, undef, undef, undef], defers := [] })
        (fun y a' s' W W' row hs hg hr => by
          obtain ⟨Bv, q1, q2, q3⟩ := hs
          exact ⟨Bv, q1, abX_block (β := Unit) (b := Bv) (Bx := wr.heap.size + 1) (B := W0.heap.size) (fun _ => .cells (lineC y.1) 56 (0, 0)) (fun _ => rfl) (by omega) () W W' row q2 hg hr, q3⟩)
        ?assign ?body ?done ?stop
      case assign =>
        intro l pre y W K hi hK
        unfold lineV at hK ⊢
        gi_wp2
        obtain ⟨⟨i1, i2, i3⟩, i4⟩ := hi
        exact hK _ _ ((KeepsOthers.alloc _ _).from _) ⟨(Below.refl _ W).alloc (by omega) _, (World.grownBy_alloc W _ none).block (wr.heap.size + 1) (by omega) (by simp)⟩
          ⟨⟨i1.alloc _, i2.alloc (by omega) _, by simp; omega⟩, i4⟩ ⟨W.heap.size, by omega, blk_new W _, rfl⟩
      case body =>
        rintro l pre ⟨y, hm⟩ a' W hl ⟨r, hr⟩ ⟨⟨i1, i2, i3⟩, i4⟩ ⟨Bv, hBv, hcv, rfl⟩ hlen2
        obtain ⟨p, hp⟩ : ∃ p, pre.map Subtype.val = p := ⟨_, rfl⟩
        have hpl : p.length = pre.length := by rw [← hp, List.length_map]
        have hmap : (pre ++ [(⟨y, hm⟩ : LineIn s)]).map Subtype.val = p ++ [y] := by rw [List.map_append, hp]; rfl
        rw [hp] at i1 i4
        have hnn : p.length < n := by have := HNA.out; omega
        have hn3 : n ≤ 3001 := by have := HN.out.1; have := HN.out.2.2.1; omega
        obtain ⟨k, hk⟩ : ∃ k : Int, (p.length : Int) = k := ⟨_, rfl⟩
        rw [hk] at i1 i4
        have hk0 : 0 ≤ k := by omega
        have hkn : k < (n : Int) := by omega
        have i5 : k = 0 ∨ k ≤ sm := by omega
        have w3 := (hw3.kept (grown_below i2 none) (by simp)).cell
        have w6 := (hw6.kept (grown_below i2 none) (by simp)).cell
        have c9 := i1.cell
        have c9f := i1.frozen
        obtain ⟨ad2, e2, z0, z1, z2, z3⟩ := at_T56 (Kd.C_below hC2 i2) k hk0 (by rw [HNA.out]; exact hkn)
        cases e2
        obtain ⟨⟨q0, q1, q2, q3⟩, hq⟩ : ∃ q, rd_T56 (allL s) k = q := ⟨_, rfl⟩
        rw [hq] at z0 z1 z2 z3
        obtain ⟨y0, y1, y2, y3⟩ := y
        dsimp only at z0 z1 z2 z3 hcv
        have d0 : W.cell? ⟨Bv, 0, none⟩ = some (.int .i64 y0) := by simp [World.cell?, hcv, lineC]
        have d1 : W.cell? ⟨Bv, 1, none⟩ = some (.string y1) := by simp [World.cell?, hcv, lineC]
        have d2 : W.cell? ⟨Bv, 2, none⟩ = some (.int .u8 y2) := by simp [World.cell?, hcv, lineC]
        have d3 : W.cell? ⟨Bv, 3, none⟩ = some (.int .i64 y3) := by simp [World.cell?, hcv, lineC]
        have hw1 : IntKind.i64.wrap (k + 1) = k + 1 := by rw [IntKind.wrap_i64]; omega
        dsimp only [lineV]
        have HMAP := Aside0.mk hmap
        have HI := Aside0.mk (And.intro i1 (And.intro i2 (And.intro i3 (And.intro i5 (And.intro hk (And.intro hpl hq))))))
        have g2 : decide ((n : Int) ≤ k) = false := decide_eq_false (by omega)
        have pk := eq_true hk0
        have qk := eq_true hkn
        clear hmap i1 i2 i3 i4 i5 hk hpl hq hp hcv hnn
        by_cases c1 : sm ≤ k
        · have g1 : decide (sm ≤ k) = true := decide_eq_true c1
          gi_wp2
          refine quiet_round l rfl mixed (by kernel_rfl) (by kernel_rfl) ?_
          repeat (gi_big_quiet_step (fail))
          refine wpQuietIn_nil ?_
          rintro _ ⟨nq, rfl⟩
          gi_wp2
          have BD : Below W.heap.size W (W.drewN nq) := pw_below_drewN (Below.refl _ _) nq
          have KO : KeepsOthers W (W.drewN nq) := KeepsOthers.of_grownBy (grown_below BD none) (fun j o ej => by cases ej)
          exact ⟨KO.from _, rfl, p, ⟨y0, y1, y2, y3⟩, HMAP.out, by have := HI.out.2.2.2.1; have := HI.out.2.2.2.2.1; omega, .inl (by have := HI.out.2.2.2.2.1; omega), by rw [HI.out.2.2.2.2.1]; exact HI.out.1.kept (grown_below BD none) (by simp), pw_below_drewN HI.out.2.1 nq⟩
        · have g1 : decide (sm ≤ k) = false := decide_eq_false c1
          by_cases c3 : (y0 == q0 && (y1.toList == q1.toList && (y2 == q2 && (y3 == q3)))) = true
          · gi_wp2
            refine quiet_round l rfl mixed (by kernel_rfl) (by kernel_rfl) ?_
            repeat (gi_big_quiet_step (fail))
            refine wpQuietIn_nil ?_
            rintro _ ⟨nq, rfl⟩
            gi_wp2
            have BD : Below W.heap.size W (W.drewN nq) := pw_below_drewN (Below.refl _ _) nq
            have KO : KeepsOthers W (W.drewN nq) := KeepsOthers.of_grownBy (grown_below BD none) (fun j o ej => by cases ej)
            refine ⟨(KO.trans (KeepsOthers.setCell _ _ _)).from _, ⟨(pw_below_drewN (Below.refl _ _) nq).setCell (p := ⟨wr.heap.size, 0, none⟩) (Nat.le_refl _) _, ?_⟩, ?_⟩
            · exact (Below.heap_setCell _ _ _ _ (by show wr.heap.size + 1 ≠ wr.heap.size; omega)).trans (BD.block _ (by have := HI.out.2.2.1; omega))
            · show InvT wr.heap.size wr W0 sm ((pre ++ [(⟨⟨y0, y1, y2, y3⟩, hm⟩ : LineIn s)]).map Subtype.val) _
              rw [HMAP.out]
              have e : ((p ++ [(⟨y0, y1, y2, y3⟩ : S56)]).length : Int) = k + 1 := by have := HI.out.2.2.2.2.1; rw [List.length_append, List.length_singleton]; omega
              refine ⟨⟨?_, (pw_below_drewN HI.out.2.1 nq).setCell (p := ⟨wr.heap.size, 0, none⟩) (Nat.le_refl _) _, Nat.le_trans HI.out.2.2.1 (KO.trans (KeepsOthers.setCell _ _ _)).size⟩, .inr ?_⟩
              · rw [e]
                exact (HI.out.1.kept (grown_below BD none) (by simp)).set _
              · rw [e]
                omega
          · have c3f : (y0 == q0 && (y1.toList == q1.toList && (y2 == q2 && (y3 == q3)))) = false := by simpa using c3
            have hne : (⟨y0, y1, y2, y3⟩ : S56) ≠ rd_T56 (allL s) (p.length : Int) := by
              rw [HI.out.2.2.2.2.1, HI.out.2.2.2.2.2.2]
              intro e
              cases e
              exact c3 (by simp)
            have HNE := Aside0.mk hne
            clear hne c3
            gi_wp2
            refine quiet_round l rfl mixed (by kernel_rfl) (by kernel_rfl) ?_
            repeat (gi_big_quiet_step (fail))
            refine wpQuietIn_nil ?_
            rintro _ ⟨nq, rfl⟩
            gi_wp2
            have BD : Below W.heap.size W (W.drewN nq) := pw_below_drewN (Below.refl _ _) nq
            have KO : KeepsOthers W (W.drewN nq) := KeepsOthers.of_grownBy (grown_below BD none) (fun j o ej => by cases ej)
            exact ⟨KO.from _, rfl, p, ⟨y0, y1, y2, y3⟩, HMAP.out, by have := HI.out.2.2.2.1; have := HI.out.2.2.2.2.1; omega, .inr HNE.out, by rw [HI.out.2.2.2.2.1]; exact HI.out.1.kept (grown_below BD none) (by simp), pw_below_drewN HI.out.2.1 nq⟩
      case done =>
        rintro D ys W hD hys ⟨⟨i1, i2, i3⟩, i4⟩ hK
        rw [hys, HNA.out] at i1 i4
        obtain ⟨k, hk⟩ : ∃ k : Int, (n : Int) = k := ⟨_, rfl⟩
        have hkm : k = max 0 (min sm (n : Int)) := by omega
        rw [hk] at i1
        have j3 : Boxed W w.heap.size 3 (.int .i64 sm) := hw3.kept (grown_below i2 none) (by simp)
        have j6 : Boxed W p6 53 (.slice A2 n c2) := hw6.kept (grown_below i2 none) (by simp)
        have hGW : GT W := gt_same hGr (Nat.le_refl _) i2
        obtain ⟨⟨r1, r2⟩, hr⟩ : ∃ r, checkL (allL s) = r := ⟨_, rfl⟩
        have ck := check_f s (by omega)
        have rk := refCheck_is s (by omega) 10000 (by omega)
        rw [hr] at ck rk
        have CK := Aside0.mk ck
        have RK := Aside0.mk rk
        have HBW := Aside0.mk (hBw.trans (i2.mono hBw.size))
        have KM := Aside0.mk hkm
        clear ck rk hr hk
        go_wp2_with (first
          | (go_at_call 39; (with_reducible refine (lines_Check.calls s r1 r2 _ hGW CK.out).mono ?_); rintro e W4 ⟨rfl, hb4⟩; have m1 := i1.kept (grown_below hb4 none) (by simp); have m3 := j3.kept (grown_below hb4 none) (by simp); have m6 := j6.kept (grown_below hb4 none) (by simp))
          | (go_at_call 40; (with_reducible refine (paymasterref09_Check.calls 10000 s r1 r2 _ RK.out).mono ?_); rintro e W5 ⟨rfl, hb5⟩; have l1 := (m1.kept (grown_below hb5 none) (by simp)).cell; have l3 := (m3.kept (grown_below hb5 none) (by simp)).cell; have l6 := (m6.kept (grown_below hb5 none) (by simp)).cell))
        all_goals
          refine ⟨by simp, .inl ⟨_, _, rfl, run_takeDeferred (blk_below (blk_below hK hb4) hb5), ?_⟩⟩
          exact ⟨_, results_tmp rfl _ _ _, rfl, (HBW.out.trans ((hb4.trans (hb5.mono hb4.size)).mono HBW.out.size)).trans ((Below.refl _ W5).grown (grownBy_putObj' W5 D (.deferred none)) (by have := hb4.size; have := hb5.size; have := HBW.out.size; omega) (fun k e => by cases e; have := hBw.size; omega))⟩
      case stop =>
        rintro D c pre W hD hp ⟨rfl, p, y, e1, e2, e3, i1, i2⟩ hK
        obtain ⟨r, hr⟩ := hp
        rw [e1, List.append_assoc] at hr
        have hpn : p.length < n := by rw [← HNA.out, ← hr]; simp
        have hy : rd_T56 (allL s) (p.length : Int) = y := by
          unfold rd_T56
          rw [← hr, Int.toNat_natCast, List.getD_eq_getElem?_getD, List.getElem?_append_right (Nat.le_refl _), Nat.sub_self]
          rfl
        rw [hy] at e3
        have e4 : sm ≤ (p.length : Int) := e3.resolve_right (fun h => h rfl)
        obtain ⟨k, hk⟩ : ∃ k : Int, (p.length : Int) = k := ⟨_, rfl⟩
        have hkm : k = max 0 (min sm (n : Int)) := by omega
        rw [hk] at i1
        clear hr hy e1 e2 e3 e4
        have j3 : Boxed W w.heap.size 3 (.int .i64 sm) := hw3.kept (grown_below i2 none) (by simp)
        have j6 : Boxed W p6 53 (.slice A2 n c2) := hw6.kept (grown_below i2 none) (by simp)
        have hGW : GT W := gt_same hGr (Nat.le_refl _) i2
        obtain ⟨⟨r1, r2⟩, hr⟩ : ∃ r, checkL (allL s) = r := ⟨_, rfl⟩
        have ck := check_f s (by omega)
        have rk := refCheck_is s (by omega) 10000 (by omega)
        rw [hr] at ck rk
        have CK := Aside0.mk ck
        have RK := Aside0.mk rk
        have HBW := Aside0.mk (hBw.trans (i2.mono hBw.size))
        have KM := Aside0.mk hkm
        clear ck rk hr hk
        refine wpIn_wide.2 ?_
        go_wp2_with (first
          | (go_at_call 39; (with_reducible refine (lines_Check.calls s r1 r2 _ hGW CK.out).mono ?_); rintro e W4 ⟨rfl, hb4⟩; have m1 := i1.kept (grown_below hb4 none) (by simp); have m3 := j3.kept (grown_below hb4 none) (by simp); have m6 := j6.kept (grown_below hb4 none) (by simp))
          | (go_at_call 40; (with_reducible refine (paymasterref09_Check.calls 10000 s r1 r2 _ RK.out).mono ?_); rintro e W5 ⟨rfl, hb5⟩; have l1 := (m1.kept (grown_below hb5 none) (by simp)).cell; have l3 := (m3.kept (grown_below hb5 none) (by simp)).cell; have l6 := (m6.kept (grown_below hb5 none) (by simp)).cell))
        all_goals
          refine ⟨by simp, .inl ⟨_, _, rfl, run_takeDeferred (blk_below (blk_below hK hb4) hb5), ?_⟩⟩
          exact ⟨_, results_tmp rfl _ _ _, rfl, (HBW.out.trans ((hb4.trans (hb5.mono hb4.size)).mono HBW.out.size)).trans ((Below.refl _ W5).grown (grownBy_putObj' W5 D (.deferred none)) (by have := hb4.size; have := hb5.size; have := HBW.out.size; omega) (fun k e => by cases e; have := hBw.size; omega))⟩
set_option maxHeartbeats 4000000 in
set_option maxRecDepth 100000 in
theorem tells_long (s : ByteArray) (hs : 3000 < s.size) (sm : Int) (w : World) :
    CallsIn Fence.wide 5 Tryd.prog 6 #[.string s, .int .i64 sm] w fun e W' => e = .returned (.bool true) ∧ Below w.heap.size w W' := by
  have mixed : Tryd.prog.follows .mixedOrders = true := by kernel_rfl
  have hlen : decide ((3000 : Int) < (s.size : Int)) = true := decide_eq_true (by omega)
  refine callsIn_of_wp_marks Tryd.func6 rfl trivial ?_ rfl
  simp only [Tryd.ntmps6, List.size_toArray, List.length_cons, List.length_nil, Nat.reduceAdd, Nat.reduceSub, Array.replicate_succ, Array.replicate_zero, List.push_toArray, List.append_toArray, List.nil_append, List.cons_append]
  refine wpIn_wide.2 ?_
  go_wp2_with fail
  exact ⟨_, results_tmp rfl _ _ _, rfl, below_alloc (Below.refl _ _) _⟩
theorem linesTells_walk {w : World} (a0 : ByteArray) (g0 : a0.size ≤ 9223372036854775807) (a1 : Int) (g1 : (Lit.int .i64 a1).wf = true) (hG : GT w) :
    Calls Tryd.prog 6 #[.string a0, .int .i64 a1] w fun e w' => e = .returned (.bool true) ∧ Below w.heap.size w w' := by
  by_cases hs : 3000 < a0.size
  · exact callsIn_wide.1 (tells_long a0 hs a1 w)
  · exact callsIn_wide.1 (tells_is a0 (by omega) a1 w hG)
end Go.Proofs.YtpkjpiphjdpegaaDoor.P
