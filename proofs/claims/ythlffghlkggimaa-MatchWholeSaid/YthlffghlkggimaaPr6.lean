/- The machine's side, written by a patched print (wip/tools): each theorem says that a call of the Go function comes to what the Lean function beside it computes, where the tables are laid (TB). -/
import Derived.Test.YthlffghlkggimaaPr0
import Derived.Test.YthlffghlkggimaaPr1
import Derived.Test.YthlffghlkggimaaPr5
namespace Go.Proofs.Ythlffghlkggimaa.Pr
open Go.RowKit Go.Proofs.YthlffghlkggimaaW.PrintWords Go.Proofs.YthlffghlkggimaaW.PrintLast Go.Proofs.YthlffghlkggimaaW.PrintMore
attribute [local go_sem] fld30_0 fld30_1 fld30_2 fld58_0 fld58_1 fld58_2 fld58_3 fld58_4 fld66_0 fld66_1 fld76_0 fld76_1 fld76_2 fld76_3 fld76_4 fld84_0 fld84_1 fld84_2 fld84_3 fld93_0 fld93_1 fld93_2 fld9000_0 fld9000_1 fld9000_2 fld9000_3 fld9000_4 binOp_string_gtr2 binOp_string_leq2 binOp_string_geq2 max2_int min2_int max_two min_two max_three min_three max_four min_four   -- for this text's walks alone
set_option linter.unusedVariables false
set_option linter.unusedSimpArgs false
theorem qc0 {P : Prop} (h : P := by repeat (first | (with_reducible first | exact HK.out | apply KeepBut.set_ | apply keep_drewN | apply keep_drew | apply keep_alloc | refine keep_far ?_ GW193.out _) | exact HK.out)) : P := h
theorem qc1 {P : Prop} (h : P := by (with_reducible repeat (first | refine blk_drewN ?_ _ | refine blk_drew ?_ | refine blk_alloc ?_ _)); exact BK193.out) : P := h
theorem qc2 {P : Prop} (h : P := by (try simp only [List.map_toArray, List.map_cons, List.map_nil]); first | done | rfl | (simp only [List.length_drop, List.length_take]; rfl)) : P := h
theorem qc3 {P : Prop} (h : P := by first | rfl | (simp; done) | (simp [*]; done) | (simp; unfold wrap64; omega)) : P := h
theorem qc4 {P : Prop} (h : P := by repeat (first | (with_reducible first | exact HK.out | apply KeepBut.set_ | apply keep_drewN | apply keep_drew | apply keep_alloc) | exact HK.out)) : P := h
theorem qc5 {P : Prop} (h : P := by repeat (first | (with_reducible first | exact HI0.out | apply IsS76.alloc | apply IsS76.drewN | apply IsS76.drew | apply IsS76.set_0 | apply IsS76.set_1 | apply IsS76.set_2 | apply IsS76.set_3 | apply IsS76.set_4 | apply IsS76.far (hne := NB0_193.out)) | exact HI0.out)) : P := h
theorem qc6 {P : Prop} (h : P := by (with_reducible repeat (first | apply Kd.R_alloc | apply Kd.R_drewN | apply Kd.R_drew)); exact (Kd.R_mono (Kd.R_far (p := ⟨g, 1, none⟩) (IsS76.apart HI0.out HO_3.out (by decide)) (fun _ hk => hk.2) (.int .i64 (wrap64 (x1001_1 + 1)))) (fun _ h_ => h_.1))) : P := h
theorem qc7 {P : Prop} (h : P := by (with_reducible repeat (first | refine blk_drewN ?_ _ | refine blk_drew ?_ | refine blk_alloc ?_ _)); refine blk_far ?_ NB193_0.out _; (with_reducible repeat (first | refine blk_drewN ?_ _ | refine blk_drew ?_ | refine blk_alloc ?_ _)); exact BK193.out) : P := h
theorem qc8 {P : Prop} (h : P := by repeat (first | (with_reducible first | exact HB.out | apply below_alloc | apply pw_below_drewN | apply below_drew1 | refine below_set ?_ (IsS76.ge HI0.out) | refine below_set ?_ GE193.out) | exact HB.out)) : P := h

set_option maxHeartbeats 8000000 in
set_option maxRecDepth 100000 in
theorem regex_reader_alt.callsS (k : Nat) (ih : ∀ m, m < k → regex_reader_alt.Spec m) (ih_regex_reader_cat : ∀ m, m < k → regex_reader_cat.Spec m) (ih_regex_reader_atom : ∀ m, m < k → regex_reader_atom.Spec m) : regex_reader_alt.Spec k := by
 intro g s0_0 s0_1 s0_2 s0_3 s0_4 r1 r2 r3 r4 r5 r6 r7 r8 r9 r10 r11 w0 w hI hB hT h
 cases k with
 | zero => exact absurd h (by simp [regex_reader_alt.f])
 | succ k =>
 simp only [regex_reader_alt.f] at h
 have hu52 := Try.underlying52
 have HI0 := Aside0.mk hI
 have HK := Aside0.mk (KeepBut.refl w g none)
 have HL := Aside0.mk hB.size
 clear hI
 have HW0 := Aside0.mk hB.size
 have HB := Aside0.mk hB
 clear hB
 have H : ((regex_reader_cat.f k s0_0 s0_1 s0_2 s0_3 s0_4).bind fun bt194 => ((regex_reader_next.f bt194.2.2.2.2.2.2.1 bt194.2.2.2.2.2.2.2.1 bt194.2.2.2.2.2.2.2.2.1 bt194.2.2.2.2.2.2.2.2.2.1 bt194.2.2.2.2.2.2.2.2.2.2).bind fun bt210 => (regex_reader_alt.l0 k (([(⟨bt194.1, (⟨bt194.2.1, bt194.2.2.1, bt194.2.2.2.1, bt194.2.2.2.2.1⟩ : S49), bt194.2.2.2.2.2.1⟩ : S52)] : List (S52))) bt210.1 bt210.2.1 bt210.2.2.1 bt210.2.2.2.1 bt210.2.2.2.2.1 bt210.2.2.2.2.2.1 bt210.2.2.2.2.2.2))) = some (r1, r2, r3, r4, r5, r6, r7, r8, r9, r10, r11) := h
 clear h
 replace H := Option.bind_eq_some_iff.mp H
 obtain ⟨⟨t194, t195, t196, t197, t198, t199, t202, t203, t204, t205, t206⟩, A20, H⟩ := H
 replace H : ((regex_reader_next.f t202 t203 t204 t205 t206).bind fun bt210 => (regex_reader_alt.l0 k (([(⟨t194, (⟨t195, t196, t197, t198⟩ : S49), t199⟩ : S52)] : List (S52))) bt210.1 bt210.2.1 bt210.2.2.1 bt210.2.2.2.1 bt210.2.2.2.2.1 bt210.2.2.2.2.2.1 bt210.2.2.2.2.2.2)) = some (r1, r2, r3, r4, r5, r6, r7, r8, r9, r10, r11) := H
 have A2 := Aside0.mk A20
 clear A20
 obtain ⟨y207, hy207⟩ : ∃ y_ : List (S52), y_ = (([(⟨t194, (⟨t195, t196, t197, t198⟩ : S49), t199⟩ : S52)] : List (S52))) := ⟨_, rfl⟩
 replace H : ((regex_reader_next.f t202 t203 t204 t205 t206).bind fun bt210 => (regex_reader_alt.l0 k y207 bt210.1 bt210.2.1 bt210.2.2.1 bt210.2.2.2.1 bt210.2.2.2.2.1 bt210.2.2.2.2.2.1 bt210.2.2.2.2.2.2)) = some (r1, r2, r3, r4, r5, r6, r7, r8, r9, r10, r11) := by first | (rw [hy207]; with_reducible exact H) | (have H2_ := (Option.bind_some _ _).symm.trans H; rw [hy207]; with_reducible exact H2_) | (have H2_ := (Option.bind_some _ _).symm.trans H; with_reducible exact H2_) | with_reducible exact H | (rw [hy207]; exact H) | exact H
 have Ny207 := Aside0.mk hy207
 clear hy207
 replace H := Option.bind_eq_some_iff.mp H
 obtain ⟨⟨t210, t211, t212, t213, t214, t215, t216⟩, A30, H⟩ := H
 replace H : (regex_reader_alt.l0 k y207 t210 t211 t212 t213 t214 t215 t216) = some (r1, r2, r3, r4, r5, r6, r7, r8, r9, r10, r11) := H
 have A3 := Aside0.mk A30
 clear A30
 have H' := Aside0.mk H
 clear H
 go_enter Try.func29, Try.ntmps29
 go_wp2_with (first | ((with_reducible refine gate_dst (N := 2) rfl ?_); refine box_event ?hg (N := 2) ?hd (cs := #[.int .i64 0, .int .u64 0, .int .u64 0, .int .u64 0, .int .u64 0, .slice none 0 0]) (t := 52) ?hr ?_; (case hd => rfl); (case hg => rfl); (case hr => first | (go_simp; done) | (go_simp; rfl)); intro gb193 hg w4 hbox hb; have n0_ := Aside0.mk (IsS76.below (by repeat (first | (with_reducible first | exact HI0.out | apply IsS76.alloc | apply IsS76.drewN | apply IsS76.drew | apply IsS76.set_0 | apply IsS76.set_1 | apply IsS76.set_2 | apply IsS76.set_3 | apply IsS76.set_4) | exact HI0.out)) hb); have n1_ := Aside0.mk (KeepBut.trans qc4 (KeepBut.of_below hb g none) (.inl rfl)); have n2_ := Aside0.mk (below_step (by repeat (first | (with_reducible first | exact HB.out | apply below_alloc | apply pw_below_drewN | apply below_drew1 | refine below_set ?_ (IsS76.ge HI0.out)) | exact HB.out)) hb); have n3_ := Aside0.mk (hbox); have n4_ := Aside0.mk ((by rw [hg]; exact (keep_size (w := w) (g := g) (row := none) qc4) : w.heap.size ≤ gb193)); have n5_ := Aside0.mk ((Nat.le_trans HW0.out (by rw [hg]; exact (keep_size (w := w) (g := g) (row := none) qc4) : w.heap.size ≤ gb193) : w0.heap.size ≤ gb193)); have n6_ := Aside0.mk ((by rw [hg]; exact Nat.ne_of_lt (IsS76.lt (show IsS76 w0 _ g s0_0 s0_1 s0_2 s0_3 s0_4 from by repeat (first | (with_reducible first | exact HI0.out | apply IsS76.alloc | apply IsS76.drewN | apply IsS76.drew | apply IsS76.set_0 | apply IsS76.set_1 | apply IsS76.set_2 | apply IsS76.set_3 | apply IsS76.set_4) | exact HI0.out))) : g ≠ gb193)); have n7_ := Aside0.mk ((by rw [hg]; exact Nat.ne_of_gt (IsS76.lt (show IsS76 w0 _ g s0_0 s0_1 s0_2 s0_3 s0_4 from by repeat (first | (with_reducible first | exact HI0.out | apply IsS76.alloc | apply IsS76.drewN | apply IsS76.drew | apply IsS76.set_0 | apply IsS76.set_1 | apply IsS76.set_2 | apply IsS76.set_3 | apply IsS76.set_4) | exact HI0.out))) : gb193 ≠ g)); clear HI0; clear HK; clear HB; have HI0 := n0_; have HK := n1_; have HB := n2_; have BK193 := n3_; have GW193 := n4_; have GE193 := n5_; have NB0_193 := n6_; have NB193_0 := n7_; clear n0_ n1_ n2_ n3_ n4_ n5_ n6_ n7_; clear hb hbox hg) | ((with_reducible refine gate_callee (f := 35) rfl ?_); refine goesL_ (some 7) rfl rfl Try.func35 (by kernel_rfl) rfl #[.pointer (some ⟨g, 0, none⟩)] rfl qc2 ?_; (with_reducible refine (ih_regex_reader_cat k (by omega) g s0_0 s0_1 s0_2 s0_3 s0_4 t194 t195 t196 t197 t198 t199 t202 t203 t204 t205 t206 w0 _ ?side1 ?side2 ?side3 A2.out).mono ?_); (case side1 => repeat (first | (with_reducible first | exact HI0.out | apply IsS76.alloc | apply IsS76.drewN | apply IsS76.drew | apply IsS76.set_0 | apply IsS76.set_1 | apply IsS76.set_2 | apply IsS76.set_3 | apply IsS76.set_4 | apply IsS76.far (hne := NB0_193.out)) | exact HI0.out)); (case side2 => repeat (first | (with_reducible first | exact HB.out | apply below_alloc | apply pw_below_drewN | apply below_drew1 | refine below_set ?_ (IsS76.ge HI0.out) | refine below_set ?_ GE193.out) | exact HB.out)); (case side3 => exact hT); rintro e w5 ⟨v200, rfl, ho0, hi, hb, hk⟩; refine ⟨_, rfl, ?_⟩; have n0_ := Aside0.mk (KeepBut.blk hk (g' := gb193) (o := .cells #[.int .i64 0, .int .u64 0, .int .u64 0, .int .u64 0, .int .u64 0, .slice none 0 0] 52 (0, 0)) qc1 NB193_0.out (by simp)); have n1_ := Aside0.mk (Kd.R_lower (Kd.R_newB ho0 (g := gb193) (o := .cells #[.int .i64 0, .int .u64 0, .int .u64 0, .int .u64 0, .int .u64 0, .slice none 0 0] 52 (0, 0)) qc1) (keep_size (w := w) (g := g) (row := none) qc0)); have n2_ := Aside0.mk (KeepBut.trans qc0 hk (.inl rfl)); have n3_ := Aside0.mk (hb); have n4_ := Aside0.mk (hi); clear BK193; clear HK; clear HB; clear HI0; have BK193 := n0_; have HO201 := n1_; have HK := n2_; have HB := n3_; have HI0 := n4_; clear n0_ n1_ n2_ n3_ n4_; (try clear hb); (try clear hb2); (try clear hk); (try clear hi); (try clear ho0); obtain ⟨Ao6, co6, eo6⟩ := Kd.R_slice HO201.out; subst eo6) | ((with_reducible refine gate_dst (N := 8) rfl ?_); refine Kd.R_lit k52 w.heap.size 52 ?hg (N := 8) ?hd (xs := ([(⟨t194, (⟨t195, t196, t197, t198⟩ : S49), t199⟩ : S52)] : List (S52))) (inner := [.int .i64 t194, .int .u64 t195, .int .u64 t196, .int .u64 t197, .int .u64 t198, .slice Ao6 t199.length co6]) (ok := (fun k_ => k_ ≠ gb193)) (okp := (fun k_ => k_ ≠ gb193)) ?hr ?hp (fun _ hk => hk) (Kd.freshB (g := gb193) (o := .cells #[.int .i64 0, .int .u64 0, .int .u64 0, .int .u64 0, .int .u64 0, .slice none 0 0] 52 (0, 0)) qc1 _ (Nat.le_refl _)) (Below.refl _ _) ((keep_size (w := w) (g := g) (row := none) qc0)) (by simp) ?_; (case hd => rfl); (case hg => rfl); (case hr => first | (go_simp; done) | (go_simp; rfl)); (case hp => exact (Reps.c6 (show Kd.M k52 _ _ _ (⟨t194, (⟨t195, t196, t197, t198⟩ : S49), t199⟩ : S52) [.int .i64 t194, .int .u64 t195, .int .u64 t196, .int .u64 t197, .int .u64 t198, .slice Ao6 t199.length co6] from (k52_mkM _ _ _ (⟨t194, (⟨t195, t196, t197, t198⟩ : S49), t199⟩ : S52) (Kd.R_mono (HO201.out) (fun k_ hk => hk.2)))) (Reps.none _ _))); intro v208 w7 ho8 hb0_ hg_ hnew0_; have hb := lr_below hg_; have hnew_ := lr_base hnew0_; clear hb0_ hg_ hnew0_; (first | rw [← Ny207.out] at ho8 | (simp only [Int.reduceToNat] at ho8; rw [← Ny207.out] at ho8)); have n0_ := Aside0.mk (ho8); have n1_ := Aside0.mk (IsS76.below qc5 hb); have n2_ := Aside0.mk (blk_below (g := gb193) (o := .cells #[.int .i64 0, .int .u64 0, .int .u64 0, .int .u64 0, .int .u64 0, .slice none 0 0] 52 (0, 0)) qc1 hb); have n3_ := Aside0.mk (KeepBut.trans qc0 (KeepBut.of_below hb g none) (.inl rfl)); have n4_ := Aside0.mk (below_step qc8 hb); clear HI0; clear BK193; clear HK; clear HB; clear HO201; have HO209 := n0_; have HI0 := n1_; have BK193 := n2_; have HK := n3_; have HB := n4_; clear n0_ n1_ n2_ n3_ n4_; clear hb ho8 hnew_) | ((with_reducible refine gate_callee (f := 36) rfl ?_); refine goesL_ (some 11) rfl rfl Try.func36 (by kernel_rfl) rfl #[.pointer (some ⟨g, 0, none⟩)] rfl qc2 ?_; (with_reducible refine (regex_reader_next.calls g t202 t203 t204 t205 t206 t210 t211 t212 t213 t214 t215 t216 w0 _ ?side1 ?side2 ?side3 A3.out).mono ?_); (case side1 => repeat (first | (with_reducible first | exact HI0.out | apply IsS76.alloc | apply IsS76.drewN | apply IsS76.drew | apply IsS76.set_0 | apply IsS76.set_1 | apply IsS76.set_2 | apply IsS76.set_3 | apply IsS76.set_4 | apply IsS76.far (hne := NB0_193.out)) | exact HI0.out)); (case side2 => repeat (first | (with_reducible first | exact HB.out | apply below_alloc | apply pw_below_drewN | apply below_drew1 | refine below_set ?_ (IsS76.ge HI0.out) | refine below_set ?_ GE193.out) | exact HB.out)); (case side3 => exact hT); rintro e w9 ⟨rfl, hi, hb, hk⟩; refine ⟨_, rfl, ?_⟩; have n0_ := Aside0.mk (KeepBut.blk hk (g' := gb193) (o := .cells #[.int .i64 0, .int .u64 0, .int .u64 0, .int .u64 0, .int .u64 0, .slice none 0 0] 52 (0, 0)) qc1 NB193_0.out (by simp)); have n1_ := Aside0.mk (Kd.R_mono (Kd.R_keep (IsS76.apart (show IsS76 w0 _ g t202 t203 t204 t205 t206 from by repeat (first | (with_reducible first | exact HI0.out | apply IsS76.alloc | apply IsS76.drewN | apply IsS76.drew | apply IsS76.set_0 | apply IsS76.set_1 | apply IsS76.set_2 | apply IsS76.set_3 | apply IsS76.set_4 | apply IsS76.far (hne := NB0_193.out)) | exact HI0.out)) (by (with_reducible repeat (first | apply Kd.R_alloc | apply Kd.R_drewN | apply Kd.R_drew)); exact HO209.out) (by decide)) hk (fun _ h => h.2)) (fun _ h => h.1)); have n2_ := Aside0.mk (KeepBut.trans qc0 hk (.inl rfl)); have n3_ := Aside0.mk (hb); have n4_ := Aside0.mk (hi); clear BK193; clear HO209; clear HK; clear HB; clear HI0; have BK193 := n0_; have HO209 := n1_; have HK := n2_; have HB := n3_; have HI0 := n4_; clear n0_ n1_ n2_ n3_ n4_; (try clear hb); (try clear hb2); (try clear hk); (try clear hi)))
 go_loopg [3, 4, 5] k (fun kq v3 v4 v5 w' => ∃ (x3_1 : List (S52)) (x4_1 : Int) (x5_1 : Bool) (x1000_1 : ByteArray) (x1001_1 : Int) (x1002_1 : Int) (x1003_1 : Int) (x1004_1 : Int), v4 = .int .u8 x4_1 ∧ v5 = .bool x5_1 ∧ Aside0 (regex_reader_alt.l0 kq x3_1 x4_1 x5_1 x1000_1 x1001_1 x1002_1 x1003_1 x1004_1 = some (r1, r2, r3, r4, r5, r6, r7, r8, r9, r10, r11)) ∧ Aside0 (kq ≤ k) ∧ Aside0 (Kd.R k52 52 w' w.heap.size (fun k_ => k_ ≠ gb193) v3 x3_1) ∧ Aside0 (w'.heap[gb193]? = some (.cells #[.int .i64 0, .int .u64 0, .int .u64 0, .int .u64 0, .int .u64 0, (.slice none 0 0)] 52 (0, 0))) ∧ Aside0 (IsS76 w0 w' g x1000_1 x1001_1 x1002_1 x1003_1 x1004_1) ∧ Aside0 (KeepBut w w' g none) ∧ Aside0 (Below w0.heap.size w0 w'))
 case atStart => exact ⟨(y207), (t210), (t211), (t212), (t213), (t214), (t215), (t216), qc3, qc3, H', ⟨Nat.le_refl _⟩, ⟨by (with_reducible repeat (first | apply Kd.R_alloc | apply Kd.R_drewN | apply Kd.R_drew)); exact HO209.out⟩, ⟨by (with_reducible repeat (first | refine blk_drewN ?_ _ | refine blk_drew ?_ | refine blk_alloc ?_ _)); exact BK193.out⟩, ⟨by repeat (first | (with_reducible first | exact HI0.out | apply IsS76.alloc | apply IsS76.drewN | apply IsS76.drew | apply IsS76.set_0 | apply IsS76.set_1 | apply IsS76.set_2 | apply IsS76.set_3 | apply IsS76.set_4 | apply IsS76.far (hne := NB0_193.out)) | exact HI0.out)⟩, ⟨by repeat (first | (with_reducible first | exact HK.out | apply KeepBut.set_ | apply keep_drewN | apply keep_drew | apply keep_alloc | refine keep_far ?_ GW193.out _) | exact HK.out)⟩, ⟨by repeat (first | (with_reducible first | exact HB.out | apply below_alloc | apply pw_below_drewN | apply below_drew1 | refine below_set ?_ (IsS76.ge HI0.out) | refine below_set ?_ GE193.out) | exact HB.out)⟩⟩
 case round =>
  clear H'
  try clear c2
  try clear p2
  try clear c3
  try clear c6
  try clear p6
  obtain ⟨x3_1, x4_1, x5_1, x1000_1, x1001_1, x1002_1, x1003_1, x1004_1, rfl, rfl, HA, HK1, HO_3, BK193, HI0, HK, HB⟩ := hrel
  cases gk with
  | zero => exact absurd HA.out (by simp [regex_reader_alt.l0])
  | succ k1 =>
   have H := HA.out
   clear HA
   simp only [regex_reader_alt.l0] at H
   have HC10 := Aside0.mk H
   clear H
   go_upto_region 3 with (fail)
   go_cut [18] (fun v18 wc => ∃ (kq : Nat) (x18_9 : Bool), v18 = .bool x18_9 ∧ Aside0 (regex_reader_alt.j1 kq x3_1 x18_9 x1000_1 x1001_1 x1002_1 x1003_1 x1004_1 = some (r1, r2, r3, r4, r5, r6, r7, r8, r9, r10, r11)) ∧ Aside0 (kq ≤ k1) ∧ Aside0 (Kd.R k52 52 wc w.heap.size (fun k_ => k_ ≠ gb193) u3 x3_1) ∧ Aside0 (wc.heap[gb193]? = some (.cells #[.int .i64 0, .int .u64 0, .int .u64 0, .int .u64 0, .int .u64 0, (.slice none 0 0)] 52 (0, 0))) ∧ Aside0 (IsS76 w0 wc g x1000_1 x1001_1 x1002_1 x1003_1 x1004_1) ∧ Aside0 (KeepBut w wc g none) ∧ Aside0 (Below w0.heap.size w0 wc))
   case first =>
    have H := HC10.out
    clear HC10
    by_cases c11 : x5_1 = true
    ·subst c11
     have H1 : (regex_reader_alt.j1 k1 x3_1 (x4_1 == 124) x1000_1 x1001_1 x1002_1 x1003_1 x1004_1) = some (r1, r2, r3, r4, r5, r6, r7, r8, r9, r10, r11) := by rw [if_pos rfl] at H; exact H
     clear H
     have H := H1
     clear H1
     have H' := Aside0.mk H
     clear H
     go_wp2
     go_meet
     case rel => exact ⟨_, ((x4_1 == 124)), qc3, H', ⟨by have := HK1.out; first | omega | exact Nat.le_refl _⟩, ⟨by (with_reducible repeat (first | apply Kd.R_alloc | apply Kd.R_drewN | apply Kd.R_drew)); exact HO_3.out⟩, ⟨by (with_reducible repeat (first | refine blk_drewN ?_ _ | refine blk_drew ?_ | refine blk_alloc ?_ _)); exact BK193.out⟩, ⟨by repeat (first | (with_reducible first | exact HI0.out | apply IsS76.alloc | apply IsS76.drewN | apply IsS76.drew | apply IsS76.set_0 | apply IsS76.set_1 | apply IsS76.set_2 | apply IsS76.set_3 | apply IsS76.set_4 | apply IsS76.far (hne := NB0_193.out)) | exact HI0.out)⟩, ⟨by repeat (first | (with_reducible first | exact HK.out | apply KeepBut.set_ | apply keep_drewN | apply keep_drew | apply keep_alloc | refine keep_far ?_ GW193.out _) | exact HK.out)⟩, ⟨by repeat (first | (with_reducible first | exact HB.out | apply below_alloc | apply pw_below_drewN | apply below_drew1 | refine below_set ?_ (IsS76.ge HI0.out) | refine below_set ?_ GE193.out) | exact HB.out)⟩⟩
    ·replace c11 := Bool.eq_false_iff.mpr c11
     subst c11
     have H1 : (regex_reader_alt.j1 k1 x3_1 false x1000_1 x1001_1 x1002_1 x1003_1 x1004_1) = some (r1, r2, r3, r4, r5, r6, r7, r8, r9, r10, r11) := by rw [if_neg (show ¬ (false = true) by decide)] at H; exact H
     clear H
     have H := H1
     clear H1
     have H' := Aside0.mk H
     clear H
     go_wp2
     go_meet
     case rel => exact ⟨_, (false), qc3, H', ⟨by have := HK1.out; first | omega | exact Nat.le_refl _⟩, ⟨by (with_reducible repeat (first | apply Kd.R_alloc | apply Kd.R_drewN | apply Kd.R_drew)); exact HO_3.out⟩, ⟨by (with_reducible repeat (first | refine blk_drewN ?_ _ | refine blk_drew ?_ | refine blk_alloc ?_ _)); exact BK193.out⟩, ⟨by repeat (first | (with_reducible first | exact HI0.out | apply IsS76.alloc | apply IsS76.drewN | apply IsS76.drew | apply IsS76.set_0 | apply IsS76.set_1 | apply IsS76.set_2 | apply IsS76.set_3 | apply IsS76.set_4 | apply IsS76.far (hne := NB0_193.out)) | exact HI0.out)⟩, ⟨by repeat (first | (with_reducible first | exact HK.out | apply KeepBut.set_ | apply keep_drewN | apply keep_drew | apply keep_alloc | refine keep_far ?_ GW193.out _) | exact HK.out)⟩, ⟨by repeat (first | (with_reducible first | exact HB.out | apply below_alloc | apply pw_below_drewN | apply below_drew1 | refine below_set ?_ (IsS76.ge HI0.out) | refine below_set ?_ GE193.out) | exact HB.out)⟩⟩
   case rest =>
    clear HC10
    try clear c1
    try clear c2
    try clear p2
    try clear c3
    try clear c6
    try clear p6
    try clear c11
    try clear p2
    try clear p6
    obtain ⟨kq, x18_9, rfl, HA, HJ9, HO_3, BK193, HI0, HK, HB⟩ := hcut
    cases kq with
    | zero => exact absurd HA.out (by simp [regex_reader_alt.j1])
    | succ kj9 =>
     have H := HA.out
     clear HA
     simp only [regex_reader_alt.j1] at H
     by_cases c12 : x18_9 = true
     ·subst c12
      have H1 : ((regex_reader_cat.f kj9 x1000_1 (wrap64 (x1001_1 + 1)) x1002_1 x1003_1 x1004_1).bind fun bt217 => (if x3_1.length < 2199023255552 then ((regex_reader_next.f bt217.2.2.2.2.2.2.1 bt217.2.2.2.2.2.2.2.1 bt217.2.2.2.2.2.2.2.2.1 bt217.2.2.2.2.2.2.2.2.2.1 bt217.2.2.2.2.2.2.2.2.2.2).bind fun bt233 => (regex_reader_alt.l0 kj9 (x3_1 ++ [(⟨bt217.1, (⟨bt217.2.1, bt217.2.2.1, bt217.2.2.2.1, bt217.2.2.2.2.1⟩ : S49), bt217.2.2.2.2.2.1⟩ : S52)]) bt233.1 bt233.2.1 bt233.2.2.1 bt233.2.2.2.1 bt233.2.2.2.2.1 bt233.2.2.2.2.2.1 bt233.2.2.2.2.2.2)) else (none))) = some (r1, r2, r3, r4, r5, r6, r7, r8, r9, r10, r11) := by rw [if_pos rfl] at H; exact H
      clear H
      have H := H1
      clear H1
      replace H := Option.bind_eq_some_iff.mp H
      obtain ⟨⟨t217, t218, t219, t220, t221, t222, t225, t226, t227, t228, t229⟩, A130, H⟩ := H
      replace H : (if x3_1.length < 2199023255552 then ((regex_reader_next.f t225 t226 t227 t228 t229).bind fun bt233 => (regex_reader_alt.l0 kj9 (x3_1 ++ [(⟨t217, (⟨t218, t219, t220, t221⟩ : S49), t222⟩ : S52)]) bt233.1 bt233.2.1 bt233.2.2.1 bt233.2.2.2.1 bt233.2.2.2.2.1 bt233.2.2.2.2.2.1 bt233.2.2.2.2.2.2)) else (none)) = some (r1, r2, r3, r4, r5, r6, r7, r8, r9, r10, r11) := H
      have A13 := Aside0.mk A130
      clear A130
      by_cases c14 : x3_1.length < 2199023255552
      ·rw [if_pos c14] at H
       have LMc14 := Aside0.mk c14
       clear c14
       obtain ⟨y230, hy230⟩ : ∃ y_ : List (S52), y_ = (x3_1 ++ [(⟨t217, (⟨t218, t219, t220, t221⟩ : S49), t222⟩ : S52)]) := ⟨_, rfl⟩
       replace H : ((regex_reader_next.f t225 t226 t227 t228 t229).bind fun bt233 => (regex_reader_alt.l0 kj9 y230 bt233.1 bt233.2.1 bt233.2.2.1 bt233.2.2.2.1 bt233.2.2.2.2.1 bt233.2.2.2.2.2.1 bt233.2.2.2.2.2.2)) = some (r1, r2, r3, r4, r5, r6, r7, r8, r9, r10, r11) := by first | (rw [hy230]; with_reducible exact H) | (have H2_ := (Option.bind_some _ _).symm.trans H; rw [hy230]; with_reducible exact H2_) | (have H2_ := (Option.bind_some _ _).symm.trans H; with_reducible exact H2_) | with_reducible exact H | (rw [hy230]; exact H) | exact H
       have Ny230 := Aside0.mk hy230
       clear hy230
       replace H := Option.bind_eq_some_iff.mp H
       obtain ⟨⟨t233, t234, t235, t236, t237, t238, t239⟩, A150, H⟩ := H
       replace H : (regex_reader_alt.l0 kj9 y230 t233 t234 t235 t236 t237 t238 t239) = some (r1, r2, r3, r4, r5, r6, r7, r8, r9, r10, r11) := H
       have A15 := Aside0.mk A150
       clear A150
       have H' := Aside0.mk H
       clear H
       obtain ⟨HGz16, hgz16⟩ := HI0.out
       have hcz16_0 := cellS76_0 HGz16
       have hcz16_1 := cellS76_1 HGz16
       have hcz16_2 := cellS76_2 HGz16
       have hcz16_3 := cellS76_3 HGz16
       have hcz16_4 := cellS76_4 HGz16
       have hfz16_0 := blk_frozen HGz16 0
       have hfz16_1 := blk_frozen HGz16 1
       have hfz16_2 := blk_frozen HGz16 2
       have hfz16_3 := blk_frozen HGz16 3
       have hfz16_4 := blk_frozen HGz16 4
       clear HGz16 hgz16
       go_wp2_with (first | ((with_reducible refine gate_callee (f := 35) rfl ?_); refine goesL_ (some 33) rfl rfl Try.func35 (by kernel_rfl) rfl #[.pointer (some ⟨g, 0, none⟩)] rfl qc2 ?_; (with_reducible refine (ih_regex_reader_cat kj9 (by have := HK1.out; have := HJ9.out; omega) g x1000_1 (wrap64 (x1001_1 + 1)) x1002_1 x1003_1 x1004_1 t217 t218 t219 t220 t221 t222 t225 t226 t227 t228 t229 w0 _ ?side1 ?side2 ?side3 A13.out).mono ?_); (case side1 => repeat (first | (with_reducible first | exact HI0.out | apply IsS76.alloc | apply IsS76.drewN | apply IsS76.drew | apply IsS76.set_0 | apply IsS76.set_1 | apply IsS76.set_2 | apply IsS76.set_3 | apply IsS76.set_4 | apply IsS76.far (hne := NB0_193.out)) | exact HI0.out)); (case side2 => repeat (first | (with_reducible first | exact HB.out | apply below_alloc | apply pw_below_drewN | apply below_drew1 | refine below_set ?_ (IsS76.ge HI0.out) | refine below_set ?_ GE193.out) | exact HB.out)); (case side3 => exact hT); rintro e w17 ⟨v223, rfl, ho0, hi, hb, hk⟩; refine ⟨_, rfl, ?_⟩; have n0_ := Aside0.mk (Kd.R_mono (Kd.R_told (Kd.R_oldK (IsS76.apart (show IsS76 w0 _ g x1000_1 (wrap64 (x1001_1 + 1)) x1002_1 x1003_1 x1004_1 from by repeat (first | (with_reducible first | exact HI0.out | apply IsS76.alloc | apply IsS76.drewN | apply IsS76.drew | apply IsS76.set_0 | apply IsS76.set_1 | apply IsS76.set_2 | apply IsS76.set_3 | apply IsS76.set_4 | apply IsS76.far (hne := NB0_193.out)) | exact HI0.out)) qc6 (by decide)) hk) (Kd.R_base ho0)) (fun _ h_ => h_.1)); have n1_ := Aside0.mk (KeepBut.blk hk (g' := gb193) (o := .cells #[.int .i64 0, .int .u64 0, .int .u64 0, .int .u64 0, .int .u64 0, .slice none 0 0] 52 (0, 0)) qc7 NB193_0.out (by simp)); have n2_ := Aside0.mk (Kd.R_lower (Kd.R_newB (Kd.R_new' ho0 (Kd.R_lt qc6)) (g := gb193) (o := .cells #[.int .i64 0, .int .u64 0, .int .u64 0, .int .u64 0, .int .u64 0, .slice none 0 0] 52 (0, 0)) qc7) (keep_size (w := w) (g := g) (row := none) qc0)); have n3_ := Aside0.mk (KeepBut.trans qc0 hk (.inl rfl)); have n4_ := Aside0.mk (hb); have n5_ := Aside0.mk (hi); clear HO_3; clear BK193; clear HK; clear HB; clear HI0; have HO_3 := n0_; have BK193 := n1_; have HO224 := n2_; have HK := n3_; have HB := n4_; have HI0 := n5_; clear n0_ n1_ n2_ n3_ n4_ n5_; (try clear hb); (try clear hb2); (try clear hk); (try clear hi); (try clear ho0); obtain ⟨Ao19, co19, eo19⟩ := Kd.R_slice HO224.out; subst eo19) | ((with_reducible refine gate_builtin (b := .append) (xs := #[.tmp 31, .tmp 34]) rfl ?_); at_builtin; refine Kd.R_append k52 w.heap.size rfl (.tmp 31) (.tmp 34) 50 52 (.agg #[(.int .i64 0), (.int .u64 0), (.int .u64 0), (.int .u64 0), (.int .u64 0), (.slice none 0 0)]) 64 rfl Try.underlying50 info52 rfl (by decide) (by omega) u3 x3_1 (⟨t217, (⟨t218, t219, t220, t221⟩ : S49), t222⟩ : S52) [.int .i64 t217, .int .u64 t218, .int .u64 t219, .int .u64 t220, .int .u64 t221, .slice Ao19 t222.length co19] (fun k_ => k_ ≠ gb193) (fun k_ => ((fun k_ => k_ ≠ gb193)) k_ ∧ some k_ ≠ (u3 : Value).ownBlock) rfl rfl ?aP (fun _ hk => hk) ?aF ?aO (Below.refl _ _) ?aS ?aL ?_; (case aP => exact k52_mkM _ _ _ (⟨t217, (⟨t218, t219, t220, t221⟩ : S49), t222⟩ : S52) (Kd.R_mono (HO224.out) (fun k_ hk => ⟨hk.2, hk.1.2⟩))); (case aF => exact (fun k_ hk => Kd.freshB (g := gb193) (o := .cells #[.int .i64 0, .int .u64 0, .int .u64 0, .int .u64 0, .int .u64 0, .slice none 0 0] 52 (0, 0)) qc1 k_ hk)); (case aO => exact (by (with_reducible repeat (first | apply Kd.R_alloc | apply Kd.R_drewN | apply Kd.R_drew)); exact Kd.R_mono HO_3.out (fun _ hk => hk.1))); (case aS => exact (keep_size (w := w) (g := g) (row := none) qc0)); (case aL => have := LMc14.out; omega); intro v231 w18 ho hb hg hat; rw [← Ny230.out] at ho; have n0_ := Aside0.mk (blk_grown (g := gb193) (o := .cells #[.int .i64 0, .int .u64 0, .int .u64 0, .int .u64 0, .int .u64 0, .slice none 0 0] 52 (0, 0)) qc1 hg (Kd.R_away HO_3.out (fun _ hk => hk.1))); have n1_ := Aside0.mk (IsS76.grown qc5 hg (IsS76.own_ne HI0.out HO_3.out (by decide))); have n2_ := Aside0.mk (below_weaken qc8 HL.out hb); have n3_ := Aside0.mk (KeepBut.trans qc0 (KeepBut.of_grown hg g) (Kd.R_base2 HO_3.out)); have n4_ := Aside0.mk (ho); clear BK193; clear HI0; clear HB; clear HK; clear HO_3; clear HO224; have BK193 := n0_; have HI0 := n1_; have HB := n2_; have HK := n3_; have HO232 := n4_; clear n0_ n1_ n2_ n3_ n4_; clear ho hb hg hat) | ((with_reducible refine gate_callee (f := 36) rfl ?_); refine goesL_ (some 21) rfl rfl Try.func36 (by kernel_rfl) rfl #[.pointer (some ⟨g, 0, none⟩)] rfl qc2 ?_; (with_reducible refine (regex_reader_next.calls g t225 t226 t227 t228 t229 t233 t234 t235 t236 t237 t238 t239 w0 _ ?side1 ?side2 ?side3 A15.out).mono ?_); (case side1 => repeat (first | (with_reducible first | exact HI0.out | apply IsS76.alloc | apply IsS76.drewN | apply IsS76.drew | apply IsS76.set_0 | apply IsS76.set_1 | apply IsS76.set_2 | apply IsS76.set_3 | apply IsS76.set_4 | apply IsS76.far (hne := NB0_193.out)) | exact HI0.out)); (case side2 => repeat (first | (with_reducible first | exact HB.out | apply below_alloc | apply pw_below_drewN | apply below_drew1 | refine below_set ?_ (IsS76.ge HI0.out) | refine below_set ?_ GE193.out) | exact HB.out)); (case side3 => exact hT); rintro e w20 ⟨rfl, hi, hb, hk⟩; refine ⟨_, rfl, ?_⟩; have n0_ := Aside0.mk (KeepBut.blk hk (g' := gb193) (o := .cells #[.int .i64 0, .int .u64 0, .int .u64 0, .int .u64 0, .int .u64 0, .slice none 0 0] 52 (0, 0)) qc1 NB193_0.out (by simp)); have n1_ := Aside0.mk (Kd.R_mono (Kd.R_keep (IsS76.apart (show IsS76 w0 _ g t225 t226 t227 t228 t229 from by repeat (first | (with_reducible first | exact HI0.out | apply IsS76.alloc | apply IsS76.drewN | apply IsS76.drew | apply IsS76.set_0 | apply IsS76.set_1 | apply IsS76.set_2 | apply IsS76.set_3 | apply IsS76.set_4 | apply IsS76.far (hne := NB0_193.out)) | exact HI0.out)) (by (with_reducible repeat (first | apply Kd.R_alloc | apply Kd.R_drewN | apply Kd.R_drew)); exact HO232.out) (by decide)) hk (fun _ h => h.2)) (fun _ h => h.1)); have n2_ := Aside0.mk (KeepBut.trans qc0 hk (.inl rfl)); have n3_ := Aside0.mk (hb); have n4_ := Aside0.mk (hi); clear BK193; clear HO232; clear HK; clear HB; clear HI0; have BK193 := n0_; have HO232 := n1_; have HK := n2_; have HB := n3_; have HI0 := n4_; clear n0_ n1_ n2_ n3_ n4_; (try clear hb); (try clear hb2); (try clear hk); (try clear hi)))
       go_roundg kj9
       case measure => have := HK1.out; have := HJ9.out; omega
       case rel => exact ⟨(y230), (t233), (t234), (t235), (t236), (t237), (t238), (t239), qc3, qc3, H', ⟨by have := HK1.out; have := HJ9.out; omega⟩, ⟨by (with_reducible repeat (first | apply Kd.R_alloc | apply Kd.R_drewN | apply Kd.R_drew)); exact HO232.out⟩, ⟨by (with_reducible repeat (first | refine blk_drewN ?_ _ | refine blk_drew ?_ | refine blk_alloc ?_ _)); exact BK193.out⟩, ⟨by repeat (first | (with_reducible first | exact HI0.out | apply IsS76.alloc | apply IsS76.drewN | apply IsS76.drew | apply IsS76.set_0 | apply IsS76.set_1 | apply IsS76.set_2 | apply IsS76.set_3 | apply IsS76.set_4 | apply IsS76.far (hne := NB0_193.out)) | exact HI0.out)⟩, ⟨by repeat (first | (with_reducible first | exact HK.out | apply KeepBut.set_ | apply keep_drewN | apply keep_drew | apply keep_alloc | refine keep_far ?_ GW193.out _) | exact HK.out)⟩, ⟨by repeat (first | (with_reducible first | exact HB.out | apply below_alloc | apply pw_below_drewN | apply below_drew1 | refine below_set ?_ (IsS76.ge HI0.out) | refine below_set ?_ GE193.out) | exact HB.out)⟩⟩
      ·rw [if_neg c14] at H
       exact absurd H (by simp)
     ·replace c12 := Bool.eq_false_iff.mpr c12
      subst c12
      have H1 : (if (x3_1.length : Int) = 1 then (if 0 < (x3_1.length : Int) then (some ((rd_T52 x3_1 0).f0, (rd_T52 x3_1 0).f1.f0, (rd_T52 x3_1 0).f1.f1, (rd_T52 x3_1 0).f1.f2, (rd_T52 x3_1 0).f1.f3, (rd_T52 x3_1 0).f2, x1000_1, x1001_1, x1002_1, x1003_1, x1004_1)) else (none)) else (some (3, 0, 0, 0, 0, x3_1, x1000_1, x1001_1, x1002_1, x1003_1, x1004_1))) = some (r1, r2, r3, r4, r5, r6, r7, r8, r9, r10, r11) := by rw [if_neg (show ¬ (false = true) by decide)] at H; exact H
      clear H
      have H := H1
      clear H1
      by_cases c21 : (x3_1.length : Int) = 1
      ·rw [if_pos c21] at H
       have c21b0 : ((x3_1.length : Int) == 1) = true := beq_iff_eq.mpr c21
       have c21b1 : ((x3_1.length : Int) != 1) = false := bne_eq_false_iff_eq.mpr c21
       clear c21
       by_cases c22 : 0 < (x3_1.length : Int)
       ·rw [if_pos c22] at H
        have c22b0 : decide (0 < (x3_1.length : Int)) = true := decide_eq_true c22
        have c22b1 : decide (0 < x3_1.length) = true := decide_eq_true (by omega)
        clear c22
        simp only [Option.some.injEq, Prod.mk.injEq] at H
        obtain ⟨rfl, rfl, rfl, rfl, rfl, rfl, rfl, rfl, rfl, rfl, rfl⟩ := H
        obtain ⟨Ao23, co23, eo23⟩ := Kd.R_slice HO_3.out
        subst eo23
        have p240 : 0 ≤ (0 : Int) := (by omega)
        have qc240 : 0 < (x3_1.length : Int) := of_decide_eq_true (by first | (with_reducible assumption) | assumption)
        obtain ⟨ad240, A240_5, c240_5, e240, hx240_0, hx240_1, hx240_2, hx240_3, hx240_4, hx240_5, hl240_5, hi240_5⟩ := at_T52 (Kd.R_reads' HO_3.out).2.2 0 p240 qc240
        cases e240
        obtain ⟨ce240, hce240, hMe240, hcc240⟩ := Kd.R_get HO_3.out z52 0 p240 (by first | exact qc240 | exact of_decide_eq_true (by first | (with_reducible assumption) | assumption) | (have e_ := (Kd.R_reads' HO_3.out).1; omega))
        obtain ⟨ve240_5, rfl, ge240_5⟩ := k52_openM hMe240
        have hv240_5 := hcc240 5 _ rfl
        rw [add_field _ _ 5 (by omega)] at hv240_5
        replace hv240_5 := Option.some.inj (hv240_5.symm.trans hx240_5)
        rw [hv240_5] at ge240_5
        have HL240_5 := Aside0.mk (show Kd.R k52 52 _ _ _ _ ((rd_T52 x3_1 0).f2) from ge240_5)
        clear hv240_5 ge240_5
        clear hcc240 hce240
        have qi240 : (0 < x3_1.length) = True := eq_true (by omega)
        (try rw [show ((0 : Int)).toNat = 0 from rfl] at hx240_0)
        (try rw [show 0 * 6 = 0 from rfl] at hx240_0)
        (try rw [Addr.add_zero'] at hx240_0)
        (try rw [show ((0 : Int)).toNat = 0 from rfl] at hx240_1)
        (try rw [show 0 * 6 = 0 from rfl] at hx240_1)
        (try rw [Addr.add_zero'] at hx240_1)
        (try rw [show ((0 : Int)).toNat = 0 from rfl] at hx240_2)
        (try rw [show 0 * 6 = 0 from rfl] at hx240_2)
        (try rw [Addr.add_zero'] at hx240_2)
        (try rw [show ((0 : Int)).toNat = 0 from rfl] at hx240_3)
        (try rw [show 0 * 6 = 0 from rfl] at hx240_3)
        (try rw [Addr.add_zero'] at hx240_3)
        (try rw [show ((0 : Int)).toNat = 0 from rfl] at hx240_4)
        (try rw [show 0 * 6 = 0 from rfl] at hx240_4)
        (try rw [Addr.add_zero'] at hx240_4)
        (try rw [show ((0 : Int)).toNat = 0 from rfl] at hx240_5)
        (try rw [show 0 * 6 = 0 from rfl] at hx240_5)
        (try rw [Addr.add_zero'] at hx240_5)
        have HR240_5 := Aside0.mk hi240_5
        have HC240_5 := Aside0.mk hl240_5
        clear hi240_5 hl240_5
        replace p240 := eq_true p240
        replace qc240 := eq_true qc240
        have hnb24 := NB193_0.out
        have hnc24 := NB0_193.out
        have hcz25_0 : wc.cell? ⟨gb193, 0, none⟩ = some (.int .i64 0) := (blk_cell BK193.out 0).trans rfl
        have hcz25_1 : wc.cell? ⟨gb193, 1, none⟩ = some (.int .u64 0) := (blk_cell BK193.out 1).trans rfl
        have hcz25_2 : wc.cell? ⟨gb193, 2, none⟩ = some (.int .u64 0) := (blk_cell BK193.out 2).trans rfl
        have hcz25_3 : wc.cell? ⟨gb193, 3, none⟩ = some (.int .u64 0) := (blk_cell BK193.out 3).trans rfl
        have hcz25_4 : wc.cell? ⟨gb193, 4, none⟩ = some (.int .u64 0) := (blk_cell BK193.out 4).trans rfl
        have hcz25_5 : wc.cell? ⟨gb193, 5, none⟩ = some (.slice none 0 0) := (blk_cell BK193.out 5).trans rfl
        have hfz25_0 := blk_frozen BK193.out 0
        have hfz25_1 := blk_frozen BK193.out 1
        have hfz25_2 := blk_frozen BK193.out 2
        have hfz25_3 := blk_frozen BK193.out 3
        have hfz25_4 := blk_frozen BK193.out 4
        have hfz25_5 := blk_frozen BK193.out 5
        go_wp2
        refine bodyPost_ret (results_cell_row rfl _ _ gb193 52 #[.int .i64 ((rd_T52 x3_1 0).f0), .int .u64 ((rd_T52 x3_1 0).f1.f0), .int .u64 ((rd_T52 x3_1 0).f1.f1), .int .u64 ((rd_T52 x3_1 0).f1.f2), .int .u64 ((rd_T52 x3_1 0).f1.f3), .slice A240_5 ((rd_T52 x3_1 0).f2).length c240_5] (0, 0) _ rfl (by (with_reducible repeat (first | refine blk_drewN ?_ _ | refine blk_drew ?_ | refine blk_alloc ?_ _)); refine blk_put (cs := #[.int .i64 ((rd_T52 x3_1 0).f0), .int .u64 ((rd_T52 x3_1 0).f1.f0), .int .u64 ((rd_T52 x3_1 0).f1.f1), .int .u64 ((rd_T52 x3_1 0).f1.f2), .int .u64 ((rd_T52 x3_1 0).f1.f3), .slice none 0 0]) ?_ 5 _ rfl; (with_reducible repeat (first | refine blk_drewN ?_ _ | refine blk_drew ?_ | refine blk_alloc ?_ _)); refine blk_put (cs := #[.int .i64 ((rd_T52 x3_1 0).f0), .int .u64 ((rd_T52 x3_1 0).f1.f0), .int .u64 ((rd_T52 x3_1 0).f1.f1), .int .u64 ((rd_T52 x3_1 0).f1.f2), .int .u64 0, .slice none 0 0]) ?_ 4 _ rfl; (with_reducible repeat (first | refine blk_drewN ?_ _ | refine blk_drew ?_ | refine blk_alloc ?_ _)); refine blk_put (cs := #[.int .i64 ((rd_T52 x3_1 0).f0), .int .u64 ((rd_T52 x3_1 0).f1.f0), .int .u64 ((rd_T52 x3_1 0).f1.f1), .int .u64 0, .int .u64 0, .slice none 0 0]) ?_ 3 _ rfl; (with_reducible repeat (first | refine blk_drewN ?_ _ | refine blk_drew ?_ | refine blk_alloc ?_ _)); refine blk_put (cs := #[.int .i64 ((rd_T52 x3_1 0).f0), .int .u64 ((rd_T52 x3_1 0).f1.f0), .int .u64 0, .int .u64 0, .int .u64 0, .slice none 0 0]) ?_ 2 _ rfl; (with_reducible repeat (first | refine blk_drewN ?_ _ | refine blk_drew ?_ | refine blk_alloc ?_ _)); refine blk_put (cs := #[.int .i64 ((rd_T52 x3_1 0).f0), .int .u64 0, .int .u64 0, .int .u64 0, .int .u64 0, .slice none 0 0]) ?_ 1 _ rfl; (with_reducible repeat (first | refine blk_drewN ?_ _ | refine blk_drew ?_ | refine blk_alloc ?_ _)); refine blk_put (cs := #[.int .i64 0, .int .u64 0, .int .u64 0, .int .u64 0, .int .u64 0, .slice none 0 0]) ?_ 0 _ rfl; (with_reducible repeat (first | refine blk_drewN ?_ _ | refine blk_drew ?_ | refine blk_alloc ?_ _)); exact BK193.out) Try.underlying52 rfl (by kernel_rfl)) rfl ?_
        exact ⟨_, by first | rfl | (simp [errW_none, errW_some] <;> rfl) | (simp [errW_none, errW_some] <;> first | rfl | exact isEmpty_bne _) | (simp [*, errW_none, errW_some] <;> rfl), by (with_reducible repeat (first | apply Kd.R_alloc | apply Kd.R_drewN | apply Kd.R_drew)); exact Kd.R_mono (Kd.R_far (p := ⟨gb193, 5, none⟩) (Kd.R_far (p := ⟨gb193, 4, none⟩) (Kd.R_far (p := ⟨gb193, 3, none⟩) (Kd.R_far (p := ⟨gb193, 2, none⟩) (Kd.R_far (p := ⟨gb193, 1, none⟩) (Kd.R_far (p := ⟨gb193, 0, none⟩) (Kd.R_mono HL240_5.out (fun k_ hk => (⟨hk, hk.1⟩ : _ ∧ k_ ≠ gb193))) (fun _ hk => hk.2) (.int .i64 ((rd_T52 x3_1 0).f0))) (fun _ hk => hk.2) (.int .u64 ((rd_T52 x3_1 0).f1.f0))) (fun _ hk => hk.2) (.int .u64 ((rd_T52 x3_1 0).f1.f1))) (fun _ hk => hk.2) (.int .u64 ((rd_T52 x3_1 0).f1.f2))) (fun _ hk => hk.2) (.int .u64 ((rd_T52 x3_1 0).f1.f3))) (fun _ hk => hk.2) (.slice A240_5 ((rd_T52 x3_1 0).f2).length c240_5)) (fun _ hk => trivial), by repeat (first | (with_reducible first | exact HI0.out | apply IsS76.alloc | apply IsS76.drewN | apply IsS76.drew | apply IsS76.set_0 | apply IsS76.set_1 | apply IsS76.set_2 | apply IsS76.set_3 | apply IsS76.set_4 | apply IsS76.far (hne := NB0_193.out)) | exact HI0.out), by repeat (first | (with_reducible first | exact HB.out | apply below_alloc | apply pw_below_drewN | apply below_drew1 | refine below_set ?_ (IsS76.ge HI0.out) | refine below_set ?_ GE193.out) | exact HB.out), by repeat (first | (with_reducible first | exact HK.out | apply KeepBut.set_ | apply keep_drewN | apply keep_drew | apply keep_alloc | refine keep_far ?_ GW193.out _) | exact HK.out)⟩
       ·rw [if_neg c22] at H
        exact absurd H (by simp)
      ·rw [if_neg c21] at H
       have c21b0 : ((x3_1.length : Int) == 1) = false := beq_eq_false_iff_ne.mpr c21
       have c21b1 : ((x3_1.length : Int) != 1) = true := bne_iff_ne.mpr c21
       simp only [Option.some.injEq, Prod.mk.injEq] at H
       obtain ⟨rfl, rfl, rfl, rfl, rfl, rfl, rfl, rfl, rfl, rfl, rfl⟩ := H
       obtain ⟨Ao26, co26, eo26⟩ := Kd.R_slice HO_3.out
       subst eo26
       have hnb27 := NB193_0.out
       have hnc27 := NB0_193.out
       have hcz28_0 : wc.cell? ⟨gb193, 0, none⟩ = some (.int .i64 0) := (blk_cell BK193.out 0).trans rfl
       have hcz28_1 : wc.cell? ⟨gb193, 1, none⟩ = some (.int .u64 0) := (blk_cell BK193.out 1).trans rfl
       have hcz28_2 : wc.cell? ⟨gb193, 2, none⟩ = some (.int .u64 0) := (blk_cell BK193.out 2).trans rfl
       have hcz28_3 : wc.cell? ⟨gb193, 3, none⟩ = some (.int .u64 0) := (blk_cell BK193.out 3).trans rfl
       have hcz28_4 : wc.cell? ⟨gb193, 4, none⟩ = some (.int .u64 0) := (blk_cell BK193.out 4).trans rfl
       have hcz28_5 : wc.cell? ⟨gb193, 5, none⟩ = some (.slice none 0 0) := (blk_cell BK193.out 5).trans rfl
       have hfz28_0 := blk_frozen BK193.out 0
       have hfz28_1 := blk_frozen BK193.out 1
       have hfz28_2 := blk_frozen BK193.out 2
       have hfz28_3 := blk_frozen BK193.out 3
       have hfz28_4 := blk_frozen BK193.out 4
       have hfz28_5 := blk_frozen BK193.out 5
       go_wp2
       refine bodyPost_ret (results_cell_row rfl _ _ gb193 52 #[.int .i64 3, .int .u64 0, .int .u64 0, .int .u64 0, .int .u64 0, .slice Ao26 x3_1.length co26] (0, 0) _ rfl (by (with_reducible repeat (first | refine blk_drewN ?_ _ | refine blk_drew ?_ | refine blk_alloc ?_ _)); refine blk_put (cs := #[.int .i64 3, .int .u64 0, .int .u64 0, .int .u64 0, .int .u64 0, .slice none 0 0]) ?_ 5 _ rfl; (with_reducible repeat (first | refine blk_drewN ?_ _ | refine blk_drew ?_ | refine blk_alloc ?_ _)); refine blk_put (cs := #[.int .i64 3, .int .u64 0, .int .u64 0, .int .u64 0, .int .u64 0, .slice none 0 0]) ?_ 4 _ rfl; (with_reducible repeat (first | refine blk_drewN ?_ _ | refine blk_drew ?_ | refine blk_alloc ?_ _)); refine blk_put (cs := #[.int .i64 3, .int .u64 0, .int .u64 0, .int .u64 0, .int .u64 0, .slice none 0 0]) ?_ 3 _ rfl; (with_reducible repeat (first | refine blk_drewN ?_ _ | refine blk_drew ?_ | refine blk_alloc ?_ _)); refine blk_put (cs := #[.int .i64 3, .int .u64 0, .int .u64 0, .int .u64 0, .int .u64 0, .slice none 0 0]) ?_ 2 _ rfl; (with_reducible repeat (first | refine blk_drewN ?_ _ | refine blk_drew ?_ | refine blk_alloc ?_ _)); refine blk_put (cs := #[.int .i64 3, .int .u64 0, .int .u64 0, .int .u64 0, .int .u64 0, .slice none 0 0]) ?_ 1 _ rfl; (with_reducible repeat (first | refine blk_drewN ?_ _ | refine blk_drew ?_ | refine blk_alloc ?_ _)); refine blk_put (cs := #[.int .i64 0, .int .u64 0, .int .u64 0, .int .u64 0, .int .u64 0, .slice none 0 0]) ?_ 0 _ rfl; (with_reducible repeat (first | refine blk_drewN ?_ _ | refine blk_drew ?_ | refine blk_alloc ?_ _)); exact BK193.out) Try.underlying52 rfl (by kernel_rfl)) rfl ?_
       exact ⟨_, by first | rfl | (simp [errW_none, errW_some] <;> rfl) | (simp [errW_none, errW_some] <;> first | rfl | exact isEmpty_bne _) | (simp [*, errW_none, errW_some] <;> rfl), by (with_reducible repeat (first | apply Kd.R_alloc | apply Kd.R_drewN | apply Kd.R_drew)); exact Kd.R_mono (Kd.R_far (p := ⟨gb193, 5, none⟩) (Kd.R_far (p := ⟨gb193, 4, none⟩) (Kd.R_far (p := ⟨gb193, 3, none⟩) (Kd.R_far (p := ⟨gb193, 2, none⟩) (Kd.R_far (p := ⟨gb193, 1, none⟩) (Kd.R_far (p := ⟨gb193, 0, none⟩) (Kd.R_mono HO_3.out (fun k_ hk => (⟨hk, hk⟩ : _ ∧ k_ ≠ gb193))) (fun _ hk => hk.2) (.int .i64 3)) (fun _ hk => hk.2) (.int .u64 0)) (fun _ hk => hk.2) (.int .u64 0)) (fun _ hk => hk.2) (.int .u64 0)) (fun _ hk => hk.2) (.int .u64 0)) (fun _ hk => hk.2) (.slice Ao26 x3_1.length co26)) (fun _ hk => trivial), by repeat (first | (with_reducible first | exact HI0.out | apply IsS76.alloc | apply IsS76.drewN | apply IsS76.drew | apply IsS76.set_0 | apply IsS76.set_1 | apply IsS76.set_2 | apply IsS76.set_3 | apply IsS76.set_4 | apply IsS76.far (hne := NB0_193.out)) | exact HI0.out), by repeat (first | (with_reducible first | exact HB.out | apply below_alloc | apply pw_below_drewN | apply below_drew1 | refine below_set ?_ (IsS76.ge HI0.out) | refine below_set ?_ GE193.out) | exact HB.out), by repeat (first | (with_reducible first | exact HK.out | apply KeepBut.set_ | apply keep_drewN | apply keep_drew | apply keep_alloc | refine keep_far ?_ GW193.out _) | exact HK.out)⟩

end Go.Proofs.Ythlffghlkggimaa.Pr
