/- A program of this session wrote this text out of the session's own texts. (part 5 of 8) -/
import Derived.Test.YtpkjpiphjdpegaaDoorCRowWrites4
import Derived.Ground.SlsfProg
import Derived.Shelf.SlLaysF0
import Derived.Shelf.SlGeneric
import Derived.Test.YtpkjpiphjdpegaaDoorProg
namespace Go.Proofs.YtpkjpiphjdpegaaDoor.P
open Go.Shelf
def sh_lf122_ren : Go.Shelf.Ren := ⟨fun | 20 => 122 | n => n, fun | 24 => 44 | 22 => 34 | 3 => 3 | 25 => 104 | 4 => 4 | 0 => 0 | n => n, fun | n => n⟩
theorem sh_lf122 : Go.Proofs.SlLaysF0.n20 Tryd.prog sh_lf122_ren := {
  mixed := by kernel_rfl
  f20 := ⟨Tryd.f122.name, by decide, Tryd.func122.trans (congrArg some (by kernel_rfl))⟩
  t0 := Tryd.underlying0
  a0 := Tryd.isAgg0
  z0 := Tryd.sizeOf0
  v0 := Tryd.zeroValue0
  t3 := Tryd.underlying3
  a3 := Tryd.isAgg3
  z3 := Tryd.sizeOf3
  v3 := Tryd.zeroValue3
  t4 := Tryd.underlying4
  a4 := Tryd.isAgg4
  z4 := Tryd.sizeOf4
  v4 := Tryd.zeroValue4
  t22 := Tryd.underlying34
  a22 := Tryd.isAgg34
  z22 := Tryd.sizeOf34
  v22 := Tryd.zeroValue34
  t25 := Tryd.underlying104
  a25 := Tryd.isAgg104
  z25 := Tryd.sizeOf104
  v25 := Tryd.zeroValue104 }
end Go.Proofs.YtpkjpiphjdpegaaDoor.P
namespace Go.Proofs.YtpkjpiphjdpegaaDoor.Z
open Go.Shelf Go.RowKit Go.Lib Go.Sort Go.Proofs
set_option linter.unusedVariables false
set_option linter.unusedSimpArgs false
variable {σ : Type} [Inhabited σ]

theorem cmp_on {α : Type} [Inhabited α] {P : Program} {g : Nat} {cb : Array Value} {enc : α → List Value} {k : Nat} {cf : α → α → Int} {blk off size : Nat} {w0 W : World} {dk : Array α} (hC : CmpLays P g cb enc k cf blk off size w0) (h : SWK enc k w0 blk off dk W) (hblk : blk < w0.heap.size) (hs : dk.size = size) : CmpLays P g cb enc k cf blk off size W := by
  obtain ⟨n, os, rfl⟩ := h
  intro m os' dk' hs' x y
  rw [sortWorldK_on enc k w0 blk off n m dk dk' os os' hblk (hs'.trans hs.symm)]
  exact hC _ _ dk' hs' x y
theorem runs_same {α : Type} [Inhabited α] {tag : α → Nat} {R : α → α → Prop} {B lo hi : Nat} {d d' : Array α} (h : Runs tag R B lo hi d) (e : ∀ x, x < hi → d'[x]! = d[x]!) : Runs tag R B lo hi d' := by
  intro q h1 h2
  obtain ⟨r1, r2⟩ := h q h1 h2
  exact ⟨r1.same fun x hx hx' => e x (by omega), fun i hi hi' => by rw [e i (by omega)]; exact r2 i hi hi'⟩
theorem insertion_is (k : Nat) (aE : ∀ w, (isAgg 44).run Tryd.prog w = .ok true w) (zE : ∀ w, (Go.sizeOf 44).run Tryd.prog w = .ok k w) (enc : σ × Nat → List Value) (key : σ → List UInt8) (cf : σ × Nat → σ × Nat → Int) (g : Nat) (cb : Array Value) (blk off cap : Nat) (d0 : Array (σ × Nat)) (w0 : World)
    (R : RowK enc k w0 blk off d0) (hcmp : CmpLays Tryd.prog g cb enc k cf blk off d0.size w0) (eg : ∀ args w, (callFunc g args).run Tryd.prog w = .ok (.enter g args) w) (hcf : ∀ x y, cf x y < 0 ↔ Op.bytesLess (key x.1) (key y.1) = true) (hsz : d0.size < 1000000000000) (a b : Nat) (d : Array (σ × Nat)) (w : World) (hab : a ≤ b) (hb : b ≤ d.size) (hds : d.size = d0.size) (S : SWK enc k w0 blk off d w) (ht : ∀ i j, a ≤ i → i < j → j < b → d[i]!.2 < d[j]!.2) :
    Calls Tryd.prog 122 #[.slice (some ⟨blk, off, none⟩) d0.size cap, .int .i64 a, .int .i64 b, .func (.func g) #[] cb] w fun e w' => e = .returned (.tuple #[]) ∧ ∃ d', SWK enc k w0 blk off d' w' ∧ PermIn a b d d' ∧ Asc (Rb key) a b d' := by
  have H := S.holds R.hblk R.hH hds
  have C := cmp_on hcmp S R.hblk hds
  rw [← hds] at C
  have c := AnyQ.insertionSortCmpFunc P.sh_lf122 k aE zE enc R.hk R.h1 cf g cb blk off cap a b d w eg C H (S.lt R.hblk) hab hb (by omega)
  rw [hds] at c
  have p := insertion_stable key hcf hab hb ht
  refine c.mono ?_
  rintro e w' ⟨rfl, q, os, rfl⟩
  exact ⟨rfl, _, S.on R.hblk q _ os p.1.1, p.1, p.2⟩
theorem merge_is (k : Nat) (aE : ∀ w, (isAgg 44).run Tryd.prog w = .ok true w) (zE : ∀ w, (Go.sizeOf 44).run Tryd.prog w = .ok k w) (enc : σ × Nat → List Value) (key : σ → List UInt8) (cf : σ × Nat → σ × Nat → Int) (g : Nat) (cb : Array Value) (blk off cap : Nat) (d0 : Array (σ × Nat)) (w0 : World)
    (R : RowK enc k w0 blk off d0) (hcmp : CmpLays Tryd.prog g cb enc k cf blk off d0.size w0) (eg : ∀ args w, (callFunc g args).run Tryd.prog w = .ok (.enter g args) w) (hcf : ∀ x y, cf x y < 0 ↔ Op.bytesLess (key x.1) (key y.1) = true) (hsz : d0.size < 1000000000000) (a m b : Nat) (d : Array (σ × Nat)) (w : World) (h1 : a < m) (h2 : m < b) (hb : b ≤ d.size) (hds : d.size = d0.size) (S : SWK enc k w0 blk off d w) (hL : Asc (Rb key) a m d) (hR : Asc (Rb key) m b d) (ht : ∀ i j, a ≤ i → i < m → m ≤ j → j < b → d[i]!.2 < d[j]!.2) :
    Calls Tryd.prog 123 #[.slice (some ⟨blk, off, none⟩) d0.size cap, .int .i64 a, .int .i64 m, .int .i64 b, .func (.func g) #[] cb] w fun e w' => e = .returned (.tuple #[]) ∧ ∃ d', SWK enc k w0 blk off d' w' ∧ PermIn a b d d' ∧ Asc (Rb key) a b d' :=
  symMerge_is k aE zE enc cf (Rb key) g cb blk off cap d0 w0 R hcmp eg (rb_trans key) (by omega) (b - a) a m b d w (Nat.le_refl _) h1 h2 hb hds hL hR (cross_of key hcf ht) S
set_option maxHeartbeats 16000000 in
set_option maxRecDepth 1000000 in
theorem stable_walk (k : Nat) (aE : ∀ w, (isAgg 44).run Tryd.prog w = .ok true w) (zE : ∀ w, (Go.sizeOf 44).run Tryd.prog w = .ok k w) (enc : σ × Nat → List Value) (key : σ → List UInt8) (cf : σ × Nat → σ × Nat → Int) (g : Nat) (cb : Array Value) (blk off cap : Nat) (d0 : Array (σ × Nat)) (w0 : World)
    (R : RowK enc k w0 blk off d0) (hcmp : CmpLays Tryd.prog g cb enc k cf blk off d0.size w0) (eg : ∀ args w, (callFunc g args).run Tryd.prog w = .ok (.enter g args) w) (hcf : ∀ x y, cf x y < 0 ↔ Op.bytesLess (key x.1) (key y.1) = true) (hsz : d0.size < 1000000000000) (htag : ∀ i, i < d0.size → d0[i]!.2 = i) (S : SWK enc k w0 blk off d0 w0) :
    Calls Tryd.prog 95 #[.slice (some ⟨blk, off, none⟩) d0.size cap, .int .i64 d0.size, .func (.func g) #[] cb] w0 fun e w' => e = .returned (.tuple #[]) ∧ ∃ d', SWK enc k w0 blk off d' w' ∧ PermIn 0 d0.size d0 d' ∧ Asc (Rb key) 0 d0.size d' := by
  have HC : Aside (CmpLays Tryd.prog g cb enc k cf blk off d0.size w0) := hcmp
  have HT : Hid (∀ i, i < d0.size → d0[i]!.2 = i) := htag
  have S0 : Aside (SWK enc k w0 blk off d0 w0) := S
  clear hcmp htag S
  have e1 : ∀ args w, (callFunc 122 args).run Tryd.prog w = .ok (.enter 122 args) w := enters_of Tryd.func122 (by kernel_rfl) rfl
  have e2 : ∀ args w, (callFunc 123 args).run Tryd.prog w = .ok (.enter 123 args) w := enters_of Tryd.func123 (by kernel_rfl) rfl
  have mixed : Tryd.prog.follows .mixedOrders = true := by kernel_rfl
  go_enter Tryd.func95, Tryd.ntmps95
  go_wp2_with fail
  go_loopg [7, 8] (d0.size + 20) (fun kx s7 s8 wr => ∃ (i a b : Nat) (dk : Array (σ × Nat)), s7 = .int .i64 a ∧ s8 = .int .i64 b ∧ b ≤ a + 20 ∧ a + 20 ≤ b ∧ a ≤ d0.size ∧ d0.size + 20 - a ≤ kx ∧ dk.size = d0.size ∧ Aside (SWK enc k w0 blk off dk wr) ∧ Hid (a = i * (2 * 10)) ∧ Hid (PermIn 0 a d0 dk) ∧ Hid (Runs (fun x : σ × Nat => x.2) (Rb key) (2 * 10) 0 a dk))
  case atStart => exact ⟨0, 0, 20, d0, rfl, rfl, Nat.le_refl _, Nat.le_refl _, Nat.zero_le _, by omega, rfl, S0, (show 0 = 0 * (2 * 10) by omega), permIn_refl _ _ _, fun q h1 h2 => absurd h2 (Nat.not_lt_zero _)⟩
  case round =>
    clear S0
    obtain ⟨i, a, b, dk, rfl, rfl, hb1, hb2, ha, hkx, hds, S1, HI, HP, HU⟩ := hrel
    have TG : Hid (∀ x, a ≤ x → x < d0.size → dk[x]!.2 = x) := fun x hx hx' => by rw [HP.out.2.1 x (.inr hx)]; exact HT.out x hx'
    by_cases hle : b ≤ d0.size
    · have hz : (b : Int) ≤ (d0.size : Int) := by omega
      have c := insertion_is k aE zE enc key cf g cb blk off cap d0 w0 R HC.out eg hcf hsz a b dk wr (by omega) (by omega) (by omega) S1.out (fun p q h1 h2 h3 => by rw [TG.out p h1 (by omega), TG.out q (by omega) (by omega)]; exact h2)
      go_wp2_with (first | (go_at_fn 122; (with_reducible refine c.mono ?_); rintro e w2 ⟨rfl, d2, S2, hP, hA⟩))
      have S2' : Aside (SWK enc k w0 blk off d2 w2) := S2
      have P2 : Hid (PermIn a b dk d2) := hP
      have A2 : Hid (Asc (Rb key) a b d2) := hA
      clear S2 hP hA c
      go_wp2
      go_roundg (d0.size + 20 - b)
      case measure => omega
      case rel =>
        refine ⟨i + 1, b, b + 20, d2, by go_num, by go_num, Nat.le_refl _, Nat.le_refl _, hle, Nat.le_refl _, by rw [P2.out.1]; exact hds, S2', (show b = (i + 1) * (2 * 10) by have := HI.out; omega), permIn_trans _ _ _ _ _ (permIn_mono _ _ _ _ _ _ (Nat.le_refl _) (by omega) (by omega) HP.out) (permIn_mono _ _ _ _ _ _ (Nat.zero_le _) (Nat.le_refl _) (by omega) P2.out), ?_⟩
        exact runs_merged (n := d0.size) HI.out (by omega) HU.out (by omega) (by omega) hle (.inl (by omega)) (by omega) P2.out A2.out (fun x hx hx' => by show a ≤ dk[x]!.2 ∧ dk[x]!.2 < a + 2 * 10; rw [TG.out x hx (by omega)]; omega)
    · have hz : ¬ (b : Int) ≤ (d0.size : Int) := by omega
      have c := insertion_is k aE zE enc key cf g cb blk off cap d0 w0 R HC.out eg hcf hsz a d0.size dk wr (by omega) (by omega) (by omega) S1.out (fun p q h1 h2 h3 => by rw [TG.out p h1 (by omega), TG.out q (by omega) (by omega)]; exact h2)
      go_wp2_with (first | (go_at_fn 122; (with_reducible refine c.mono ?_); rintro e w2 ⟨rfl, d2, S2, hP, hA⟩))
      have S2' : Aside (SWK enc k w0 blk off d2 w2) := S2
      have P2 : Hid (PermIn a d0.size dk d2) := hP
      have A2 : Hid (Asc (Rb key) a d0.size d2) := hA
      have PP : Hid (PermIn 0 d0.size d0 d2) := permIn_trans _ _ _ _ _ (permIn_mono _ _ _ _ _ _ (Nat.le_refl _) ha (by omega) HP.out) (permIn_mono _ _ _ _ _ _ (Nat.zero_le _) (Nat.le_refl _) (by omega) P2.out)
      have UU : Hid (Runs (fun x : σ × Nat => x.2) (Rb key) 20 0 d0.size d2) := by
        by_cases ea : a < d0.size
        · exact runs_merged (B := 10) (n := d0.size) HI.out (by omega) HU.out ea (by omega) (Nat.le_refl _) (.inr rfl) (by omega) P2.out A2.out (fun x hx hx' => by show a ≤ dk[x]!.2 ∧ dk[x]!.2 < a + 2 * 10; rw [TG.out x hx hx']; omega)
        · have ee : a = d0.size := by omega
          have := HU.out
          rw [ee] at this
          exact runs_same this fun x hx => P2.out.2.1 x (.inl (by omega))
      have hs2 : d2.size = d0.size := by rw [P2.out.1]; exact hds
      clear S1 S2 hP hA c P2 A2 TG HI HP HU
      go_wp2_with fail
      go_loopg [6] (d0.size) (fun ky s6 wr => ∃ (B : Nat) (dk : Array (σ × Nat)), s6 = .int .i64 B ∧ 0 < B ∧ B ≤ 2 * d0.size + 20 ∧ d0.size - B ≤ ky ∧ dk.size = d0.size ∧ Aside (SWK enc k w0 blk off dk wr) ∧ Hid (PermIn 0 d0.size d0 dk) ∧ Hid (Runs (fun x : σ × Nat => x.2) (Rb key) B 0 d0.size dk))
      case atStart => exact ⟨20, d2, rfl, by omega, by omega, by omega, hs2, S2', PP, UU⟩
      case round =>
        clear S2' PP UU hs2 hds
        obtain ⟨B, dk, rfl, hB0, hB1, hky, hds, S3, QP, QU⟩ := hrel
        by_cases hlt : B < d0.size
        · have hlz : (B : Int) < (d0.size : Int) := by omega
          go_wp2_with fail
          go_loopg [7, 8] (d0.size + 2 * B) (fun kv s7 s8 wr => ∃ (q a b : Nat) (dj : Array (σ × Nat)), s7 = .int .i64 a ∧ s8 = .int .i64 b ∧ b ≤ a + 2 * B ∧ a + 2 * B ≤ b ∧ a ≤ d0.size ∧ d0.size + 2 * B - a ≤ kv ∧ dj.size = d0.size ∧ Aside (SWK enc k w0 blk off dj wr) ∧ Hid (a = q * (2 * B)) ∧ Hid (PermIn 0 d0.size d0 dj) ∧ Hid (Runs (fun x : σ × Nat => x.2) (Rb key) (2 * B) 0 a dj) ∧ Hid (Runs (fun x : σ × Nat => x.2) (Rb key) B a d0.size dj))
          case atStart => exact ⟨0, 0, 2 * B, dk, rfl, by go_num, by omega, by omega, Nat.zero_le _, by omega, hds, S3, (show 0 = 0 * (2 * B) by rw [Nat.zero_mul]), QP, fun q h1 h2 => absurd h2 (Nat.not_lt_zero _), QU⟩
          case round =>
            clear S3 QP QU hds
            obtain ⟨q, a, b, dj, rfl, rfl, hb1, hb2, ha, hkv, hds, S4, HI, HP, HU, HV⟩ := hrel
            have rB : IntKind.i64.wrap ((a : Int) + (B : Int)) = (a : Int) + (B : Int) := by rw [IntKind.wrap_i64]; omega
            obtain ⟨m, hm⟩ : ∃ m, m = a + B := ⟨_, rfl⟩
            have zB : (a : Int) + (B : Int) = (m : Int) := by omega
            have HM : Hid (m = a + B) := hm
            clear hm
            have r2 : IntKind.i64.wrap ((B : Int) * 2) = (B : Int) * 2 := by rw [IntKind.wrap_i64]; omega
            have r3 : IntKind.i64.wrap (2 * (B : Int)) = 2 * (B : Int) := by rw [IntKind.wrap_i64]; omega
            have r4 : IntKind.i64.wrap ((b : Int) + 2 * (B : Int)) = (b : Int) + 2 * (B : Int) := by rw [IntKind.wrap_i64]; omega
            by_cases hle : b ≤ d0.size
            · have hz : (b : Int) ≤ (d0.size : Int) := by omega
              have U2 : Hid (Asc (Rb key) a m dj ∧ Asc (Rb key) m b dj ∧ (∀ i j, a ≤ i → i < m → m ≤ j → j < b → dj[i]!.2 < dj[j]!.2) ∧ ∀ i, a ≤ i → i < b → a ≤ dj[i]!.2 ∧ dj[i]!.2 < a + 2 * B) := by rw [HM.out]; exact runs_two HI.out hB0 HV.out (by omega) (by omega) hle (.inl (by omega))
              have c := merge_is k aE zE enc key cf g cb blk off cap d0 w0 R HC.out eg hcf hsz a m b dj wr (by omega) (by omega) (by omega) (by omega) S4.out U2.out.1 U2.out.2.1 U2.out.2.2.1
              go_wp2_with (first | (go_at_fn 123; (with_reducible refine c.mono ?_); rintro e w2 ⟨rfl, d2, S2, hP, hA⟩))
              have S2' : Aside (SWK enc k w0 blk off d2 w2) := S2
              have P2 : Hid (PermIn a b dj d2) := hP
              have A2 : Hid (Asc (Rb key) a b d2) := hA
              clear S2 hP hA c S4
              go_wp2
              go_roundg (d0.size + 2 * B - b)
              case measure => omega
              case rel => exact ⟨q + 1, b, b + 2 * B, d2, by go_num, by go_num, Nat.le_refl _, Nat.le_refl _, hle, Nat.le_refl _, by rw [P2.out.1]; exact hds, S2', (show b = (q + 1) * (2 * B) by have := HI.out; rw [Nat.add_mul, Nat.one_mul]; omega), permIn_trans _ _ _ _ _ HP.out (permIn_mono _ _ _ _ _ _ (Nat.zero_le _) hle (by omega) P2.out), runs_merged (n := d0.size) HI.out hB0 HU.out (by omega) (by omega) hle (.inl (by omega)) (by omega) P2.out A2.out U2.out.2.2.2, runs_rest (q := q) HV.out (by omega) P2.out⟩
            · have hz : ¬ (b : Int) ≤ (d0.size : Int) := by omega
              by_cases hm : m < d0.size
              · have hmz : (m : Int) < (d0.size : Int) := by omega
                have U2 : Hid (Asc (Rb key) a m dj ∧ Asc (Rb key) m d0.size dj ∧ (∀ i j, a ≤ i → i < m → m ≤ j → j < d0.size → dj[i]!.2 < dj[j]!.2) ∧ ∀ i, a ≤ i → i < d0.size → a ≤ dj[i]!.2 ∧ dj[i]!.2 < a + 2 * B) := by rw [HM.out]; exact runs_two HI.out hB0 HV.out (by omega) (by omega) (Nat.le_refl _) (.inr rfl)
                have c := merge_is k aE zE enc key cf g cb blk off cap d0 w0 R HC.out eg hcf hsz a m d0.size dj wr (by omega) (by omega) (by omega) (by omega) S4.out U2.out.1 U2.out.2.1 U2.out.2.2.1
                go_wp2_with (first | (go_at_fn 123; (with_reducible refine c.mono ?_); rintro e w2 ⟨rfl, d2, S2, hP, hA⟩))
                have S2' : Aside (SWK enc k w0 blk off d2 w2) := S2
                have P2 : Hid (PermIn a d0.size dj d2) := hP
                have A2 : Hid (Asc (Rb key) a d0.size d2) := hA
                clear S2 hP hA c S4
                go_wp2
                go_roundg (d0.size - 2 * B)
                case measure => omega
                case rel => exact ⟨2 * B, d2, by go_num, by omega, by omega, Nat.le_refl _, by rw [P2.out.1]; exact hds, S2', permIn_trans _ _ _ _ _ HP.out (permIn_mono _ _ _ _ _ _ (Nat.zero_le _) (Nat.le_refl _) (by omega) P2.out), runs_merged (n := d0.size) HI.out hB0 HU.out (by omega) (by omega) (Nat.le_refl _) (.inr rfl) (by omega) P2.out A2.out U2.out.2.2.2⟩
              · have hmz : ¬ (m : Int) < (d0.size : Int) := by omega
                go_wp2
                go_roundg (d0.size - 2 * B)
                case measure => omega
                case rel => exact ⟨2 * B, dj, by go_num, by omega, by omega, Nat.le_refl _, hds, S4, HP, runs_last HI.out hB0 HU.out HV.out ha (by have := HM.out; omega)⟩
        · have hlz : ¬ (B : Int) < (d0.size : Int) := by omega
          go_wp2
          go_end0
          exact ⟨rfl, dk, S3.out, QP.out, runs_all hB0 (by omega) QU.out⟩
set_option maxHeartbeats 16000000 in
set_option maxRecDepth 1000000 in
theorem sortStable_is (k : Nat) (aE : ∀ w, (isAgg 44).run Tryd.prog w = .ok true w) (zE : ∀ w, (Go.sizeOf 44).run Tryd.prog w = .ok k w) (enc : σ × Nat → List Value) (key : σ → List UInt8) (cf : σ × Nat → σ × Nat → Int) (g : Nat) (cb : Array Value) (blk off cap : Nat) (d0 : Array (σ × Nat)) (w0 : World)
    (R : RowK enc k w0 blk off d0) (hcmp : CmpLays Tryd.prog g cb enc k cf blk off d0.size w0) (eg : ∀ args w, (callFunc g args).run Tryd.prog w = .ok (.enter g args) w) (hcf : ∀ x y, cf x y < 0 ↔ Op.bytesLess (key x.1) (key y.1) = true) (hsz : d0.size < 1000000000000) (htag : ∀ i, i < d0.size → d0[i]!.2 = i) (S : SWK enc k w0 blk off d0 w0) :
    Calls Tryd.prog 64 #[.slice (some ⟨blk, off, none⟩) d0.size cap, .func (.func g) #[] cb] w0 fun e w' => e = .returned (.tuple #[]) ∧ ∃ d', SWK enc k w0 blk off d' w' ∧ PermIn 0 d0.size d0 d' ∧ Asc (Rb key) 0 d0.size d' := by
  have c := stable_walk k aE zE enc key cf g cb blk off cap d0 w0 R hcmp eg hcf hsz htag S
  clear hcmp htag S R hcf
  have e1 : ∀ args w, (callFunc 95 args).run Tryd.prog w = .ok (.enter 95 args) w := enters_of Tryd.func95 (by kernel_rfl) rfl
  go_enter Tryd.func64, Tryd.ntmps64
  go_wp2_with (first | (go_at_fn 95; (with_reducible refine c.mono ?_); rintro e w2 ⟨rfl, d2, S2, hP, hA⟩))
  go_end0
  exact ⟨rfl, d2, S2, hP, hA⟩
end Go.Proofs.YtpkjpiphjdpegaaDoor.Z
