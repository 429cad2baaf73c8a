/- Blocks that recur in this claim's texts. -/
namespace Go.Proofs.YtpkjpiphjdpegaaDoor
theorem zsc {α : Type _} {x : α} {l : List α} {n : Nat} {a : α} : (x :: l).set (n + 1) a = x :: l.set n a := List.set_cons_succ
theorem zsb {α : Type _} {x : α} {l : List α} {a : α} : (x :: l).set 0 a = a :: l := List.set_cons_zero
theorem zsa {α : Type _} {l : List α} {i : Nat} {a : α} : l.toArray.setIfInBounds i a = (l.set i a).toArray := List.setIfInBounds_toArray ..
theorem zqb {P Q : Prop} (x : Q) (h : Q → P := by intro x; (with_reducible repeat (first | refine zRv ?_ _ | refine zRk ?_ | refine zRf ?_ _)); exact x) : P := h x
theorem zqr {P Q : Prop} (x : Q) (h : Q → P := by intro x; (with_reducible repeat (first | apply Kd.R_alloc | apply Kd.R_drewN | apply Kd.R_drew)); exact x) : P := h x
theorem zv0 {P : Prop} (h : P := by repeat (first | (with_reducible first | exact HB.out | apply zRe | apply zRh | apply zRj) | exact HB.out)) : P := h
theorem zv1 {P : Prop} (h : P := by omega) : P := h
theorem zv2 {P : Prop} (h : P := by repeat (first | (with_reducible first | exact HB.out | apply zRe | apply zRh | apply zRj | refine zRi ?_ GE1168.out | refine zRi ?_ GE1173.out) | exact HB.out)) : P := h
theorem zv3 {P : Prop} (h : P := by (try simp only [List.map_toArray, List.map_cons, List.map_nil]); first | done | rfl | (simp only [List.length_drop, List.length_take]; rfl)) : P := h
theorem zv4 {P : Prop} (h : P := by repeat (first | (with_reducible first | exact HB.out | apply zRe | apply zRh | apply zRj | refine zRi ?_ GE1168.out | refine zRi ?_ GE1173.out | refine zRi ?_ GE1189.out) | exact HB.out)) : P := h
theorem zv5 {P : Prop} (h : P := by first | rfl | (simp; done) | (simp [*]; done)) : P := h
theorem zv6 {P : Prop} (h : P := by first | (with_reducible assumption) | assumption) : P := h
theorem zv7 {P : Prop} (h : P := by first | (simp only [putAll, Act.put, zsa, zsb, zsc]; done) | (simp only [putAll, Act.put, zsa, zsb, zsc]; rfl)) : P := h
theorem zv8 {P : Prop} (h : P := by first | rfl | (simp [errW_none, errW_some] <;> rfl) | (simp [*, errW_none, errW_some] <;> rfl)) : P := h
theorem zv9 {P : Prop} (h : P := by repeat (first | exact Drawn0.refl _ | apply Drawn0.step)) : P := h
theorem zva {P : Prop} (h : P := by repeat (first | (with_reducible first | exact HB.out | apply zRe | apply zRh | apply zRj | refine zRi ?_ GE416.out | refine zRi ?_ GE417.out | refine zRi ?_ GE418.out) | exact HB.out)) : P := h
theorem zvb {P : Prop} (h : P := by repeat (first | (with_reducible first | exact HB.out | apply zRe | apply zRh | apply zRj | refine zRi ?_ GE437.out | refine zRi ?_ GE438.out | refine zRi ?_ GE439.out | refine zRi ?_ GE443.out) | exact HB.out)) : P := h
theorem zvc {P : Prop} (h : P := by repeat (first | (with_reducible first | exact HB.out | apply zRe | apply zRh | apply zRj | refine zRi ?_ GE397.out | refine zRi ?_ GE398.out) | exact HB.out)) : P := h
theorem zvd {P : Prop} (h : P := by repeat (first | (with_reducible first | exact HB.out | apply zRe | apply zRh | apply zRj | refine zRi ?_ GE365.out) | exact HB.out)) : P := h
theorem zve {P : Prop} (h : P := by repeat (first | (with_reducible first | exact HB.out | apply zRe | apply zRh | apply zRj | refine zRi ?_ GE1161.out | refine zRi ?_ GE1162.out) | exact HB.out)) : P := h
theorem zvf {P : Prop} (h : P := by repeat (first | (with_reducible first | exact HB.out | apply zRe | apply zRh | apply zRj | refine zRi ?_ GE437.out | refine zRi ?_ GE438.out | refine zRi ?_ GE439.out) | exact HB.out)) : P := h
theorem zvg {P : Prop} (h : P := by repeat (first | (with_reducible first | exact HB.out | apply zRe | apply zRh | apply zRj | refine zRi ?_ GE448.out) | exact HB.out)) : P := h
theorem zvh {P : Prop} (h : P := by repeat (first | (with_reducible first | exact HB.out | apply zRe | apply zRh | apply zRj | refine zRi ?_ GE391.out | refine zRi ?_ GE392.out) | exact HB.out)) : P := h
theorem zvi {P : Prop} (h : P := by repeat (first | (with_reducible first | exact HB.out | apply zRe | apply zRh | apply zRj | refine zRi ?_ GE437.out | refine zRi ?_ GE438.out | refine zRi ?_ GE439.out | refine zRi ?_ GE443.out | refine zRi ?_ GE447.out) | exact HB.out)) : P := h
theorem zvj {P : Prop} (h : P := by repeat (first | (with_reducible first | exact HB.out | apply zRe | apply zRh | apply zRj | refine zRi ?_ GE437.out | refine zRi ?_ GE438.out) | exact HB.out)) : P := h
theorem zvk {P : Prop} (h : P := by repeat (first | (with_reducible first | exact HB.out | apply zRe | apply zRh | apply zRj | refine zRi ?_ GE365.out | refine zRi ?_ GE372.out) | exact HB.out)) : P := h
theorem zvl {P : Prop} (h : P := by repeat (first | (with_reducible first | exact HB.out | apply zRe | apply zRh | apply zRj | refine zRi ?_ GE454.out) | exact HB.out)) : P := h
theorem zvm {P : Prop} (h : P := by repeat (first | (with_reducible first | exact HB.out | apply zRe | apply zRh | apply zRj | refine zRi ?_ GE1161.out | refine zRi ?_ GE1162.out | refine zRi ?_ GE1167.out) | exact HB.out)) : P := h
theorem zvn {P : Prop} (h : P := by repeat (first | (with_reducible first | exact HB.out | apply zRe | apply zRh | apply zRj | refine zRi ?_ GE1202.out) | exact HB.out)) : P := h
theorem zvo {P : Prop} (h : P := by first | exact Kd.R_nil _ _ _ _ _ | exact Kd.N_nil _ _ _ _ _ | exact Kd.V_nil _ _ _ _ _ | exact Kd.Q_nil _ _ _ _ _ | exact Kd.S_nil _ _ _ _ _) : P := h
theorem zvp {P : Prop} (h : P := by have := World.block_lt_of_cell? _ _ hw1163_0; first | rwa [add_block] at this | exact this) : P := h
theorem zvq {P : Prop} (h : P := by have := World.block_lt_of_cell? _ _ hw1163_1; first | rwa [add_block] at this | exact this) : P := h
theorem zvr {P : Prop} (h : P := by have := World.block_lt_of_cell? _ _ hw1163_2; first | rwa [add_block] at this | exact this) : P := h
theorem zvs {P : Prop} (h : P := by repeat (first | (with_reducible first | exact HB.out | apply zRe | apply zRh | apply zRj | refine zRi ?_ GE1168.out) | exact HB.out)) : P := h
theorem zvt {P : Prop} (h : P := by repeat (first | (with_reducible first | exact HB.out | apply zRe | apply zRh | apply zRj | refine zRi ?_ GE384.out) | exact HB.out)) : P := h
theorem zvu {P : Prop} (h : P := by repeat (first | (with_reducible first | exact HB.out | apply zRe | apply zRh | apply zRj | refine zRi ?_ GE374.out) | exact HB.out)) : P := h
theorem zvv {P : Prop} (h : P := by rfl) : P := h
theorem zvw {P : Prop} (h : P := by rw [hg]; exact Nat.ne_of_lt (blk_lt (g := gb1168) (o := .cells #[.string a1_0, .int .u64 a1_1, .int .u64 a1_2] 44 (0, 0)) (zqb BK1168.out))) : P := h
theorem zvx {P : Prop} (h : P := by rw [hg]; exact Nat.ne_of_gt (blk_lt (g := gb1168) (o := .cells #[.string a1_0, .int .u64 a1_1, .int .u64 a1_2] 44 (0, 0)) (zqb BK1168.out))) : P := h
theorem zvy {P : Prop} (h : P := by repeat (first | (with_reducible first | exact HB.out | apply zRe | apply zRh | apply zRj | refine zRi ?_ GE374.out | refine zRi ?_ GE375.out) | exact HB.out)) : P := h
theorem zvz {P : Prop} (h : P := by decide) : P := h
theorem zv10 {P : Prop} (h : P := by simp) : P := h
theorem zv11 {P : Prop} (h : P := by rw [hg]; exact Nat.ne_of_lt (blk_lt (g := gb1173) (o := .cells #[.string t1169, .int .u64 t1170, .int .u64 t1171] 44 (0, 0)) (zqb BK1173.out))) : P := h
theorem zv12 {P : Prop} (h : P := by rw [hg]; exact Nat.ne_of_gt (blk_lt (g := gb1173) (o := .cells #[.string t1169, .int .u64 t1170, .int .u64 t1171] 44 (0, 0)) (zqb BK1173.out))) : P := h
theorem zv13 {P : Prop} (h : P := by rw [hg]; exact Nat.ne_of_lt (blk_lt (g := gb438) (o := .cells #[.int .u64 0, .int .u64 0] 42 (0, 0)) (zqb BK438.out))) : P := h
theorem zv14 {P : Prop} (h : P := by rw [hg]; exact Nat.ne_of_gt (blk_lt (g := gb438) (o := .cells #[.int .u64 0, .int .u64 0] 42 (0, 0)) (zqb BK438.out))) : P := h
theorem zv15 {P : Prop} (h : P := by (with_reducible repeat (first | apply Kd.R_alloc | apply Kd.R_drewN | apply Kd.R_drew)); exact Kd.R_mono HO1182.out (fun _ hk => ⟨hk.2, ⟨hk.1.1, hk.1.2⟩⟩)) : P := h
theorem zv16 {P : Prop} (h : P := by rw [hg]; exact Nat.ne_of_lt (blk_lt (g := gb437) (o := .cells #[.int .u64 x438000_3, .int .u64 x438001_3] 42 (0, 0)) (zqb BK437.out))) : P := h
theorem zv17 {P : Prop} (h : P := by rw [hg]; exact Nat.ne_of_gt (blk_lt (g := gb437) (o := .cells #[.int .u64 x438000_3, .int .u64 x438001_3] 42 (0, 0)) (zqb BK437.out))) : P := h
theorem zv18 {P : Prop} (h : P := by rw [hg]; exact Nat.ne_of_lt (blk_lt (g := gb439) (o := .cells #[.int .u64 x440000_3, .int .u64 x440001_3] 42 (0, 0)) (zqb BK439.out))) : P := h
theorem zv19 {P : Prop} (h : P := by rw [hg]; exact Nat.ne_of_gt (blk_lt (g := gb439) (o := .cells #[.int .u64 x440000_3, .int .u64 x440001_3] 42 (0, 0)) (zqb BK439.out))) : P := h
theorem zv1a {P : Prop} (h : P := by refine zqb ?_; refine zRm (cs := #[.string (⟨#[]⟩ : ByteArray), .int .u64 0, .int .u64 0]) ?_ 2 _ rfl; refine zqb ?_; refine zRm (cs := #[.string (⟨#[]⟩ : ByteArray), .int .u64 0, .int .u64 0]) ?_ 1 _ rfl; refine zqb ?_; refine zRm (cs := #[.string (⟨#[]⟩ : ByteArray), .int .u64 0, .int .u64 0]) ?_ 0 _ rfl; refine zqb ?_; exact BK454.out) : P := h
theorem zv1b {P : Prop} (h : P := by simp only [putAll, Act.put, zsa, zsb, zsc]) : P := h
theorem zv1c {P : Prop} (h : P := by (with_reducible repeat (first | apply Kd.R_alloc | apply Kd.R_drewN | apply Kd.R_drew)); exact HO_3.out) : P := h
theorem zv1d {P : Prop} (h : P := by (with_reducible repeat (first | apply Kd.R_alloc | apply Kd.R_drewN | apply Kd.R_drew)); exact HO_7.out) : P := h
theorem zv1e {P : Prop} (h : P := by (with_reducible repeat (first | refine zRv ?_ _ | refine zRk ?_ | refine zRf ?_ _)); exact BK391.out) : P := h
theorem zv1f {P : Prop} (h : P := by (with_reducible repeat (first | refine zRv ?_ _ | refine zRk ?_ | refine zRf ?_ _)); exact BK392.out) : P := h
theorem zv1g {P : Prop} (h : P := by (with_reducible repeat (first | refine zRv ?_ _ | refine zRk ?_ | refine zRf ?_ _)); exact BK397.out) : P := h
theorem zv1h {P : Prop} (h : P := by (with_reducible repeat (first | refine zRv ?_ _ | refine zRk ?_ | refine zRf ?_ _)); exact BK398.out) : P := h
theorem zv1i {P : Prop} (h : P := by (with_reducible repeat (first | apply Kd.R_alloc | apply Kd.R_drewN | apply Kd.R_drew)); exact HO_6.out) : P := h
theorem zv1j {P : Prop} (h : P := by repeat (first | (with_reducible first | exact HB.out | apply zRe | apply zRh | apply zRj | refine zRi ?_ GE1158.out) | exact HB.out)) : P := h
theorem zv1k {P : Prop} (h : P := by (with_reducible repeat (first | apply Kd.R_alloc | apply Kd.R_drewN | apply Kd.R_drew)); exact Kd.R_mono HO1182.out (fun _ hk => ⟨hk.1.1.2, ⟨hk.1.2, hk.2⟩⟩)) : P := h
theorem zv1l {P : Prop} (h : P := by (with_reducible repeat (first | apply Kd.R_alloc | apply Kd.R_drewN | apply Kd.R_drew)); exact Kd.R_mono HO1182.out (fun _ hk => ⟨⟨hk.2.1, hk.2.2⟩, hk.1⟩)) : P := h
theorem zv1m {P : Prop} (h : P := by rw [hg]; exact Nat.ne_of_lt (blk_lt (g := gb374) (o := .cells #[.int .i64 a0_0, .string a0_1, .int .u8 a0_2, .int .i64 a0_3] 56 (0, 0)) (zqb BK374.out))) : P := h
theorem zv1n {P : Prop} (h : P := by rw [hg]; exact Nat.ne_of_gt (blk_lt (g := gb374) (o := .cells #[.int .i64 a0_0, .string a0_1, .int .u8 a0_2, .int .i64 a0_3] 56 (0, 0)) (zqb BK374.out))) : P := h
theorem zv1o {P : Prop} (h : P := by rw [hg]; exact Nat.ne_of_lt (blk_lt (g := gb365) (o := .cells #[.string (⟨#[]⟩ : ByteArray), .int .u64 0, .int .u64 0] 44 (0, 0)) (zqb BK365.out))) : P := h
theorem zv1p {P : Prop} (h : P := by rw [hg]; exact Nat.ne_of_gt (blk_lt (g := gb365) (o := .cells #[.string (⟨#[]⟩ : ByteArray), .int .u64 0, .int .u64 0] 44 (0, 0)) (zqb BK365.out))) : P := h
theorem zv1q {P : Prop} (h : P := by (with_reducible repeat (first | apply Kd.R_alloc | apply Kd.R_drewN | apply Kd.R_drew)); exact Kd.R_mono (Kd.R_far (p := ⟨gb1202, 2, none⟩) (Kd.R_far (p := ⟨gb1202, 1, none⟩) (Kd.R_far (p := ⟨gb1202, 0, none⟩) (Kd.R_mono HO_8.out (fun k_ hk => (⟨hk, hk.2⟩ : _ ∧ k_ ≠ gb1202))) (fun _ hk => hk.2) (.string t1197)) (fun _ hk => hk.2) (.int .u64 t1198)) (fun _ hk => hk.2) (.int .u64 t1199)) (fun _ hk => hk.1.2)) : P := h
theorem zv1r {P : Prop} (h : P := by refine zqb ?_; refine zRm (cs := #[.int .u64 0, .int .u64 x438001_1]) ?_ 1 _ rfl; refine zqb ?_; refine zRm (cs := #[.int .u64 x438000_1, .int .u64 x438001_1]) ?_ 0 _ rfl; refine zqb ?_; exact BK437.out) : P := h
theorem zv1s {P : Prop} (h : P := by (with_reducible repeat (first | apply Kd.R_alloc | apply Kd.R_drewN | apply Kd.R_drew)); exact HO_8.out) : P := h
theorem zv1t {P : Prop} (h : P := by rw [hg]; exact Nat.ne_of_lt (blk_lt (g := gb1161) (o := .cells #[.int .u64 x1162000_1, .int .u64 x1162001_1] 42 (0, 0)) (zqb BK1161.out))) : P := h
theorem zv1u {P : Prop} (h : P := by rw [hg]; exact Nat.ne_of_gt (blk_lt (g := gb1161) (o := .cells #[.int .u64 x1162000_1, .int .u64 x1162001_1] 42 (0, 0)) (zqb BK1161.out))) : P := h
theorem zv1v {P : Prop} (h : P := by rw [hg]; exact Nat.ne_of_lt (blk_lt (g := gb1162) (o := .cells #[.int .u64 x1163000_1, .int .u64 x1163001_1] 42 (0, 0)) (zqb BK1162.out))) : P := h
theorem zv1w {P : Prop} (h : P := by rw [hg]; exact Nat.ne_of_gt (blk_lt (g := gb1162) (o := .cells #[.int .u64 x1163000_1, .int .u64 x1163001_1] 42 (0, 0)) (zqb BK1162.out))) : P := h
theorem zv1x {P : Prop} (h : P := by repeat (first | (with_reducible first | exact HB.out | apply zRe | apply zRh | apply zRj | refine zRi ?_ GE416.out | refine zRi ?_ GE417.out) | exact HB.out)) : P := h
theorem zv1y {P : Prop} (h : P := by repeat (first | (with_reducible first | exact HB.out | apply zRe | apply zRh | apply zRj | refine zRi ?_ GE448.out | refine zRi ?_ GE453.out) | exact HB.out)) : P := h
theorem zv1z {P : Prop} (h : P := by refine zqb ?_; refine zRm (cs := #[.string (⟨#[]⟩ : ByteArray), .int .u64 0, .int .u64 x449002_1]) ?_ 2 _ rfl; refine zqb ?_; refine zRm (cs := #[.string (⟨#[]⟩ : ByteArray), .int .u64 x449001_1, .int .u64 x449002_1]) ?_ 1 _ rfl; refine zqb ?_; refine zRm (cs := #[.string x449000_1, .int .u64 x449001_1, .int .u64 x449002_1]) ?_ 0 _ rfl; refine zqb ?_; exact BK448.out) : P := h
theorem zv20 {P : Prop} (h : P := by refine zqb ?_; refine zRm (cs := #[.int .u64 t369, .int .u64 0]) ?_ 1 _ rfl; refine zqb ?_; refine zRm (cs := #[.int .u64 0, .int .u64 0]) ?_ 0 _ rfl; refine zqb ?_; exact BK372.out) : P := h
theorem zv21 {P : Prop} (h : P := by rw [hg]; exact Nat.ne_of_lt (blk_lt (g := gb416) (o := .cells #[.int .u64 a0_0, .int .u64 a0_1] 42 (0, 0)) (zqb BK416.out))) : P := h
theorem zv22 {P : Prop} (h : P := by rw [hg]; exact Nat.ne_of_gt (blk_lt (g := gb416) (o := .cells #[.int .u64 a0_0, .int .u64 a0_1] 42 (0, 0)) (zqb BK416.out))) : P := h
theorem zv23 {P : Prop} (h : P := by rw [hg]; exact Nat.ne_of_lt (blk_lt (g := gb443) (o := .cells #[.int .u64 t440, .int .u64 t441] 42 (0, 0)) (zqb BK443.out))) : P := h
theorem zv24 {P : Prop} (h : P := by rw [hg]; exact Nat.ne_of_gt (blk_lt (g := gb443) (o := .cells #[.int .u64 t440, .int .u64 t441] 42 (0, 0)) (zqb BK443.out))) : P := h
theorem zv25 {P : Prop} (h : P := by refine zqb ?_; refine zRm (cs := #[.string (⟨#[]⟩ : ByteArray), .int .u64 0, .int .u64 0]) ?_ 2 _ rfl; refine zqb ?_; refine zRm (cs := #[.string (⟨#[]⟩ : ByteArray), .int .u64 0, .int .u64 0]) ?_ 1 _ rfl; refine zqb ?_; refine zRm (cs := #[.string (⟨#[]⟩ : ByteArray), .int .u64 0, .int .u64 0]) ?_ 0 _ rfl; refine zqb ?_; exact BK365.out) : P := h
theorem zv26 {P : Prop} (h : P := by refine zqb ?_; refine zRm (cs := #[.string (⟨#[]⟩ : ByteArray), .int .u64 0, .int .u64 0]) ?_ 2 _ rfl; refine zqb ?_; refine zRm (cs := #[.string (⟨#[]⟩ : ByteArray), .int .u64 0, .int .u64 0]) ?_ 1 _ rfl; refine zqb ?_; refine zRm (cs := #[.string (⟨#[]⟩ : ByteArray), .int .u64 0, .int .u64 0]) ?_ 0 _ rfl; refine zqb ?_; exact BK375.out) : P := h
theorem zv27 {P : Prop} (h : P := by simp; omega) : P := h
theorem zv28 {P : Prop} (h : P := by (with_reducible repeat (first | refine zRv ?_ _ | refine zRk ?_ | refine zRf ?_ _)); exact BK437.out) : P := h
theorem zv29 {P : Prop} (h : P := by (with_reducible repeat (first | refine zRv ?_ _ | refine zRk ?_ | refine zRf ?_ _)); exact BK438.out) : P := h
theorem zv2a {P : Prop} (h : P := by repeat (first | (with_reducible first | exact HB.out | apply zRe | apply zRh | apply zRj | refine zRi ?_ GE1161.out) | exact HB.out)) : P := h
theorem zv2b {P : Prop} (h : P := by refine zqb ?_; refine zRm (cs := #[.string t1197, .int .u64 t1198, .int .u64 0]) ?_ 2 _ rfl; refine zqb ?_; refine zRm (cs := #[.string t1197, .int .u64 0, .int .u64 0]) ?_ 1 _ rfl; refine zqb ?_; refine zRm (cs := #[.string (⟨#[]⟩ : ByteArray), .int .u64 0, .int .u64 0]) ?_ 0 _ rfl; refine zqb ?_; exact BK1202.out) : P := h
theorem zv2c {P : Prop} (h : P := by repeat (first | (with_reducible first | exact HB.out | apply zRe | apply zRh | apply zRj | refine zRi ?_ GE391.out) | exact HB.out)) : P := h
theorem zv2d {P : Prop} (h : P := by repeat (first | (with_reducible first | exact HB.out | apply zRe | apply zRh | apply zRj | refine zRi ?_ GE397.out) | exact HB.out)) : P := h
theorem zv2e {P : Prop} (h : P := by repeat (first | (with_reducible first | exact HB.out | apply zRe | apply zRh | apply zRj | refine zRi ?_ GE416.out) | exact HB.out)) : P := h
theorem zv2f {P : Prop} (h : P := by repeat (first | (with_reducible first | exact HB.out | apply zRe | apply zRh | apply zRj | refine zRi ?_ GE437.out) | exact HB.out)) : P := h
theorem zv2g {P : Prop} (h : P := by have := HK1.out; omega) : P := h
theorem zv2h {P : Prop} (h : P := by refine zqb ?_; refine zRr ?_ NB365_372.out _; refine zqb ?_; refine zRr ?_ NB365_372.out _; refine zqb ?_; exact BK365.out) : P := h
theorem zv2i {P : Prop} (h : P := by repeat (first | (with_reducible first | exact HB.out | apply zRe | apply zRh | apply zRj | refine zRi ?_ GE416.out | refine zRi ?_ GE417.out | refine zRi ?_ GE418.out | refine zRi ?_ GE436.out) | exact HB.out)) : P := h
theorem zv2j {P : Prop} (h : P := by rw [hg]; exact Nat.ne_of_lt (blk_lt (g := gb397) (o := .cells #[.int .u64 a0_0, .int .u64 a0_1] 42 (0, 0)) (zqb BK397.out))) : P := h
theorem zv2k {P : Prop} (h : P := by rw [hg]; exact Nat.ne_of_gt (blk_lt (g := gb397) (o := .cells #[.int .u64 a0_0, .int .u64 a0_1] 42 (0, 0)) (zqb BK397.out))) : P := h
theorem zv2l {P : Prop} (h : P := by rw [hg]; exact Nat.ne_of_lt (blk_lt (g := gb417) (o := .cells #[.int .u64 a1_0, .int .u64 a1_1] 42 (0, 0)) (zqb BK417.out))) : P := h
theorem zv2m {P : Prop} (h : P := by rw [hg]; exact Nat.ne_of_gt (blk_lt (g := gb417) (o := .cells #[.int .u64 a1_0, .int .u64 a1_1] 42 (0, 0)) (zqb BK417.out))) : P := h
theorem zv2n {P : Prop} (h : P := by refine zqb ?_; refine zRr ?_ NB391_392.out _; refine zqb ?_; exact BK391.out) : P := h
theorem zv2o {P : Prop} (h : P := by repeat (first | (with_reducible first | exact HB.out | apply zRe | apply zRh | apply zRj | refine zRi ?_ GE397.out | refine zRi ?_ GE398.out | refine zRi ?_ GE411.out) | exact HB.out)) : P := h
theorem zv2p {P : Prop} (h : P := by have := HK1.out; first | omega | exact Nat.le_refl _) : P := h
theorem zv2q {P : Prop} (h : P := by first | rfl | (simp; done) | (simp only [← hji21] <;> (first | rfl | simp)) | (simp [*]; done)) : P := h
theorem zv2r {P : Prop} (h : P := by refine zqb ?_; refine zRm (cs := #[.int .u64 t440, .int .u64 0]) ?_ 1 _ rfl; refine zqb ?_; refine zRm (cs := #[.int .u64 0, .int .u64 0]) ?_ 0 _ rfl; refine zqb ?_; exact BK443.out) : P := h
theorem zv2s {P : Prop} (h : P := by have := HK1.out; have := HJ4.out; have := HJ11.out; omega) : P := h
theorem zv2t {P : Prop} (h : P := by first | rfl | (simp [errW_none, errW_some] <;> rfl) | (simp only [← hji11]; first | rfl | (simp [errW_none, errW_some] <;> rfl)) | (simp [*, errW_none, errW_some] <;> rfl)) : P := h
theorem zv2u {P : Prop} (h : P := by (try simp only [List.map_toArray, List.map_cons, List.map_nil]); first | done | (simp only [hji11]; rfl) | rfl | (simp only [List.length_drop, List.length_take]; rfl)) : P := h
theorem zv2v {P : Prop} (h : P := by (with_reducible repeat (first | apply Kd.R_alloc | apply Kd.R_drewN | apply Kd.R_drew)); exact Kd.R_mono HO1176.out (fun _ hk => ⟨hk.1.1.2, ⟨hk.1.2, hk.2⟩⟩)) : P := h
theorem zv2w {P : Prop} (h : P := by rw [List.length_append, List.length_singleton]; omega) : P := h
theorem zv2x {P : Prop} (h : P := by have := HK1.out; have := HK2.out; omega) : P := h
theorem zv2y {P : Prop} (h : P := by (with_reducible repeat (first | apply Kd.R_alloc | apply Kd.R_drewN | apply Kd.R_drew)); exact Kd.R_mono HO1176.out (fun _ hk => ⟨hk.2, ⟨hk.1.1, hk.1.2⟩⟩)) : P := h
theorem zv2z {P : Prop} (h : P := by (with_reducible repeat (first | apply Kd.R_alloc | apply Kd.R_drewN | apply Kd.R_drew)); exact Kd.R_mono HO1179.out (fun _ hk => ⟨hk.2, ⟨hk.1.1, hk.1.2⟩⟩)) : P := h
theorem zv30 {P : Prop} (h : P := by rw [hg]; exact Nat.ne_of_lt (blk_lt (g := gb448) (o := .cells #[.string x449000_1, .int .u64 x449001_1, .int .u64 x449002_1] 44 (0, 0)) (zqb BK448.out))) : P := h
theorem zv31 {P : Prop} (h : P := by rw [hg]; exact Nat.ne_of_gt (blk_lt (g := gb448) (o := .cells #[.string x449000_1, .int .u64 x449001_1, .int .u64 x449002_1] 44 (0, 0)) (zqb BK448.out))) : P := h
theorem zv32 {P : Prop} (h : P := by (with_reducible repeat (first | apply Kd.R_alloc | apply Kd.R_drewN | apply Kd.R_drew)); exact Kd.R_mono HO1176.out (fun _ hk => ⟨hk.1.2, hk.2⟩)) : P := h
theorem zv33 {P : Prop} (h : P := by (with_reducible repeat (first | apply Kd.R_alloc | apply Kd.R_drewN | apply Kd.R_drew)); exact Kd.R_mono HO1182.out (fun _ hk => ⟨hk.1.2, hk.2⟩)) : P := h
theorem zv34 {P : Prop} (h : P := by rw [mk_size]; omega) : P := h
theorem zv35 {P : Prop} (h : P := by have := HJ2.out; have := HJ10.out; first | omega | exact Nat.le_refl _) : P := h
theorem zv36 {P : Prop} (h : P := by refine zqb ?_; refine zRr ?_ NB437_443.out _; refine zqb ?_; refine zRr ?_ NB437_443.out _; refine zqb ?_; exact BK437.out) : P := h
theorem zv37 {P : Prop} (h : P := by refine zqb ?_; refine zRr ?_ NB438_443.out _; refine zqb ?_; refine zRr ?_ NB438_443.out _; refine zqb ?_; exact BK438.out) : P := h
theorem zv38 {P : Prop} (h : P := by refine zqb ?_; refine zRr ?_ NB439_443.out _; refine zqb ?_; refine zRr ?_ NB439_443.out _; refine zqb ?_; exact BK439.out) : P := h
theorem zv39 {P : Prop} (h : P := by refine zqb ?_; refine zRm (cs := #[.int .u64 x393000_1, .int .u64 x393001_1]) ?_ 0 _ rfl; refine zqb ?_; exact BK392.out) : P := h
theorem zv3a {P : Prop} (h : P := by rw [← eL]; rfl) : P := h
theorem zv3b {P : Prop} (h : P := by intro e; cases e; omega) : P := h
theorem zv3c {P : Prop} (h : P := by (with_reducible repeat (first | refine zRv ?_ _ | refine zRk ?_ | refine zRf ?_ _)); exact BK1158.out) : P := h
theorem zv3d {P : Prop} (h : P := by rw [List.length_take]; omega) : P := h
theorem zv3e {P : Prop} (h : P := by (with_reducible repeat (first | refine zRv ?_ _ | refine zRk ?_ | refine zRf ?_ _)); exact BK384.out) : P := h
theorem zv3f {P : Prop} (h : P := by rw [hg]; exact Nat.ne_of_lt (blk_lt (g := gb398) (o := .cells #[.int .u64 0, .int .u64 0] 42 (0, 0)) (zqb BK398.out))) : P := h
theorem zv3g {P : Prop} (h : P := by rw [hg]; exact Nat.ne_of_gt (blk_lt (g := gb398) (o := .cells #[.int .u64 0, .int .u64 0] 42 (0, 0)) (zqb BK398.out))) : P := h
theorem zv3h {P : Prop} (h : P := by (with_reducible repeat (first | refine zRv ?_ _ | refine zRk ?_ | refine zRf ?_ _)); exact BK416.out) : P := h
theorem zv3i {P : Prop} (h : P := by (with_reducible repeat (first | refine zRv ?_ _ | refine zRk ?_ | refine zRf ?_ _)); exact BK417.out) : P := h
theorem zv3j {P : Prop} (h : P := by (with_reducible repeat (first | refine zRv ?_ _ | refine zRk ?_ | refine zRf ?_ _)); exact BK418.out) : P := h
theorem zv3k {P : Prop} (h : P := by rw [hg]; exact Nat.ne_of_lt (blk_lt (g := gb418) (o := .cells #[.int .u64 0, .int .u64 0] 42 (0, 0)) (zqb BK418.out))) : P := h
theorem zv3l {P : Prop} (h : P := by rw [hg]; exact Nat.ne_of_gt (blk_lt (g := gb418) (o := .cells #[.int .u64 0, .int .u64 0] 42 (0, 0)) (zqb BK418.out))) : P := h
theorem zv3m {P : Prop} (h : P := by (with_reducible repeat (first | refine zRv ?_ _ | refine zRk ?_ | refine zRf ?_ _)); exact BK448.out) : P := h
theorem zv3n {P : Prop} (h : P := by rw [nb_length]; omega) : P := h
theorem zv3o {P : Prop} (h : P := by first | omega | exact Nat.le_refl _) : P := h
theorem zv3p {P : Prop} (h : P := by show w.heap.size ≤ w.heap.size + 1 + 1; omega) : P := h
theorem zv3q {P : Prop} (h : P := by show w.heap.size ≠ g5; omega) : P := h
theorem zv3r {P : Prop} (h : P := by have := HJ2.out; have := HJ10.out; have := HJ13.out; first | omega | exact Nat.le_refl _) : P := h
theorem zv3s {P : Prop} (h : P := by show g5 + 1 ≠ g5; omega) : P := h
theorem zv3t {P : Prop} (h : P := by unfold m128; omega) : P := h
theorem zv3u {P : Prop} (h : P := by rw [← hq_]; exact (zqb BK448.out)) : P := h
theorem zv3v {P : Prop} (h : P := by have := HK1.out; have := HJ4.out; first | omega | exact Nat.le_refl _) : P := h
theorem zv3w {P : Prop} (h : P := by rw [hg]; exact (zRg zv0)) : P := h
theorem zv3x {P : Prop} (h : P := by first | exact Nat.ne_of_lt (Nat.lt_of_lt_of_le zvp GW1167.out) | (rw [add_block]; exact Nat.ne_of_lt (Nat.lt_of_lt_of_le zvp GW1167.out)) | (show (Addr.add _ _).block ≠ _; rw [add_block]; exact Nat.ne_of_lt (Nat.lt_of_lt_of_le zvp GW1167.out)) | (dsimp only; exact Nat.ne_of_lt (Nat.lt_of_lt_of_le zvp GW1167.out))) : P := h
theorem zv3y {P : Prop} (h : P := by first | exact Nat.ne_of_lt (Nat.lt_of_lt_of_le zvq GW1167.out) | (rw [add_block]; exact Nat.ne_of_lt (Nat.lt_of_lt_of_le zvq GW1167.out)) | (show (Addr.add _ _).block ≠ _; rw [add_block]; exact Nat.ne_of_lt (Nat.lt_of_lt_of_le zvq GW1167.out)) | (dsimp only; exact Nat.ne_of_lt (Nat.lt_of_lt_of_le zvq GW1167.out))) : P := h
theorem zv3z {P : Prop} (h : P := by first | exact Nat.ne_of_lt (Nat.lt_of_lt_of_le zvr GW1167.out) | (rw [add_block]; exact Nat.ne_of_lt (Nat.lt_of_lt_of_le zvr GW1167.out)) | (show (Addr.add _ _).block ≠ _; rw [add_block]; exact Nat.ne_of_lt (Nat.lt_of_lt_of_le zvr GW1167.out)) | (dsimp only; exact Nat.ne_of_lt (Nat.lt_of_lt_of_le zvr GW1167.out))) : P := h
theorem zv40 {P : Prop} (h : P := by (with_reducible repeat (first | apply Kd.R_alloc | apply Kd.R_drewN | apply Kd.R_drew)); exact Kd.R_mono (Kd.R_far (p := ⟨gb1202, 2, none⟩) (Kd.R_far (p := ⟨gb1202, 1, none⟩) (Kd.R_far (p := ⟨gb1202, 0, none⟩) (Kd.R_types HO_7.out BK1202.out zvz) (fun _ hk => hk.2) (.string t1197)) (fun _ hk => hk.2) (.int .u64 t1198)) (fun _ hk => hk.2) (.int .u64 t1199)) (fun _ hk => trivial)) : P := h
theorem zv41 {P : Prop} (h : P := by rw [hg]; exact (zRg zv2)) : P := h
theorem zv42 {P : Prop} (h : P := by repeat (first | (with_reducible exact Below.refl _ _) | (with_reducible apply zRe) | (with_reducible apply zRh) | (with_reducible refine zRi ?_ zv1))) : P := h
theorem zv43 {P : Prop} (h : P := by rw [hg]; exact (zRg zvb)) : P := h
theorem zv44 {P : Prop} (h : P := by rw [hg]; exact (zRg zve)) : P := h
theorem zv45 {P : Prop} (h : P := by rw [hg]; exact (zRg zvd)) : P := h
theorem zv46 {P : Prop} (h : P := by rw [hg]; exact (zRg zvf)) : P := h
theorem zv47 {P : Prop} (h : P := by rw [hg]; exact (zRg zvu)) : P := h
theorem zv48 {P : Prop} (h : P := by rw [hg]; exact (zRg zvc)) : P := h
theorem zv49 {P : Prop} (h : P := by rw [hg]; exact (zRg zva)) : P := h
theorem zv4a {P : Prop} (h : P := by rw [hg]; exact (zRg zvs)) : P := h
theorem zv4b {P : Prop} (h : P := by rw [hg]; exact (zRg zvg)) : P := h
theorem zv4c {P : Prop} (h : P := by have := HI.out.2 zv1; rw [show mid + m - 1 - s = e - 1 by omega] at this; omega) : P := h
end Go.Proofs.YtpkjpiphjdpegaaDoor
