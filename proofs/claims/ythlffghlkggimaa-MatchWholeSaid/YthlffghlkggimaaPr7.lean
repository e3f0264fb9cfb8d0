/- The machine's side, written by a patched print (wip/tools): each theorem says that a call of the Go function comes to what the Lean function beside it computes, where the tables are laid (TB). -/
import Derived.WalkMore
import Derived.Test.YthlffghlkggimaaPr0
import Derived.Test.YthlffghlkggimaaPr1
import Derived.Test.YthlffghlkggimaaPr5
namespace Go.Proofs.Ythlffghlkggimaa.Pr
open Go.RowKit Go.Proofs.YthlffghlkggimaaW.PrintWords Go.Proofs.YthlffghlkggimaaW.PrintLast Go.Proofs.YthlffghlkggimaaW.PrintMore
attribute [local go_sem] fld30_0 fld30_1 fld30_2 fld58_0 fld58_1 fld58_2 fld58_3 fld58_4 fld66_0 fld66_1 fld76_0 fld76_1 fld76_2 fld76_3 fld76_4 fld84_0 fld84_1 fld84_2 fld84_3 fld93_0 fld93_1 fld93_2 fld9000_0 fld9000_1 fld9000_2 fld9000_3 fld9000_4 binOp_string_gtr2 binOp_string_leq2 binOp_string_geq2 max2_int min2_int max_two min_two max_three min_three max_four min_four   -- for this text's walks alone
set_option linter.unusedVariables false
set_option linter.unusedSimpArgs false
theorem qd0 {P : Prop} (h : P := by repeat (first | (with_reducible first | exact HK.out | apply KeepBut.set_ | apply keep_drewN | apply keep_drew | apply keep_alloc | refine keep_far ?_ GW241.out _ | refine keep_far ?_ GW267.out _) | exact HK.out)) : P := h
theorem qd1 {P : Prop} (h : P := by (with_reducible repeat (first | refine blk_drewN ?_ _ | refine blk_drew ?_ | refine blk_alloc ?_ _)); exact BK241.out) : P := h
theorem qd2 {P : Prop} (h : P := by repeat (first | (with_reducible first | exact HI0.out | apply IsS76.alloc | apply IsS76.drewN | apply IsS76.drew | apply IsS76.set_0 | apply IsS76.set_1 | apply IsS76.set_2 | apply IsS76.set_3 | apply IsS76.set_4 | apply IsS76.far (hne := NB0_241.out) | apply IsS76.far (hne := NB0_267.out)) | exact HI0.out)) : P := h
theorem qd3 {P : Prop} (h : P := by repeat (first | (with_reducible first | exact HB.out | apply below_alloc | apply pw_below_drewN | apply below_drew1 | refine below_set ?_ (IsS76.ge HI0.out) | refine below_set ?_ GE241.out | refine below_set ?_ GE267.out) | exact HB.out)) : P := h
theorem qd4 {P : Prop} (h : P := by (with_reducible repeat (first | refine blk_drewN ?_ _ | refine blk_drew ?_ | refine blk_alloc ?_ _)); exact BK267.out) : P := h
theorem qd5 {P : Prop} (h : P := by (with_reducible repeat (first | apply Kd.R_alloc | apply Kd.R_drewN | apply Kd.R_drew)); exact HO_3.out) : P := h
theorem qd6 {P : Prop} (h : P := by (with_reducible repeat (first | apply Kd.R_alloc | apply Kd.R_drewN | apply Kd.R_drew)); exact HO_268005.out) : P := h
theorem qd7 {P : Prop} (h : P := by (try simp only [List.map_toArray, List.map_cons, List.map_nil]); first | done | rfl | (simp only [List.length_drop, List.length_take]; rfl)) : P := h
theorem qd8 {P : Prop} (h : P := by (with_reducible repeat (first | apply Kd.R_alloc | apply Kd.R_drewN | apply Kd.R_drew)); exact (Kd.R_mono (Kd.R_far (p := ⟨g, 1, none⟩) (IsS76.apart HI0.out HO_3.out (by decide)) (fun _ hk => hk.2) (.int .i64 (wrap64 (t271 + 1)))) (fun _ h_ => h_.1))) : P := h
theorem qd9 {P : Prop} (h : P := by (with_reducible repeat (first | refine blk_drewN ?_ _ | refine blk_drew ?_ | refine blk_alloc ?_ _)); refine blk_far ?_ NB241_0.out _; (with_reducible repeat (first | refine blk_drewN ?_ _ | refine blk_drew ?_ | refine blk_alloc ?_ _)); exact BK241.out) : P := h
theorem qd10 {P : Prop} (h : P := by (with_reducible repeat (first | refine blk_drewN ?_ _ | refine blk_drew ?_ | refine blk_alloc ?_ _)); refine blk_far ?_ NB267_0.out _; (with_reducible repeat (first | refine blk_drewN ?_ _ | refine blk_drew ?_ | refine blk_alloc ?_ _)); exact BK267.out) : P := h
theorem qd11 {P : Prop} (h : P := by repeat (first | (with_reducible first | exact HK.out | apply KeepBut.set_ | apply keep_drewN | apply keep_drew | apply keep_alloc | refine keep_far ?_ GW241.out _) | exact HK.out)) : P := h
theorem qd12 {P : Prop} (h : P := by (with_reducible repeat (first | apply Kd.R_alloc | apply Kd.R_drewN | apply Kd.R_drew)); exact Kd.R_mono HO_3.out (fun _ hk => ⟨hk.2.1, hk.2.2⟩)) : P := h
theorem qd13 {P : Prop} (h : P := by repeat (first | (with_reducible first | exact HK.out | apply KeepBut.set_ | apply keep_drewN | apply keep_drew | apply keep_alloc) | exact HK.out)) : P := h
theorem qd14 {P : Prop} (h : P := by first | (go_simp; done) | (go_simp; rfl)) : P := h
theorem qd15 {P : Prop} (h : P := by first | rfl | (simp; done) | (simp [*]; done) | (simp; unfold wrap64; omega)) : P := h
theorem qd16 {P : Prop} (h : P := by decide) : P := h

set_option maxHeartbeats 8000000 in
set_option maxRecDepth 100000 in
theorem regex_reader_cat.callsS (k : Nat) (ih : ∀ m, m < k → regex_reader_cat.Spec m) (ih_regex_reader_alt : ∀ m, m < k → regex_reader_alt.Spec m) (ih_regex_reader_atom : ∀ m, m < k → regex_reader_atom.Spec m) : regex_reader_cat.Spec k := by
 intro g s0_0 s0_1 s0_2 s0_3 s0_4 r1 r2 r3 r4 r5 r6 r7 r8 r9 r10 r11 w0 w hI hB hT h
 cases k with
 | zero => exact absurd h (by simp [regex_reader_cat.f])
 | succ k =>
 simp only [regex_reader_cat.f] at h
 have hu52 := Try.underlying52
 have HI0 := Aside0.mk hI
 have HK := Aside0.mk (KeepBut.refl w g none)
 have HL := Aside0.mk hB.size
 clear hI
 have HW0 := Aside0.mk hB.size
 have HB := Aside0.mk hB
 clear hB
 have H : (regex_reader_cat.l0 k ([] : List (S52)) s0_0 s0_1 s0_2 s0_3 s0_4) = some (r1, r2, r3, r4, r5, r6, r7, r8, r9, r10, r11) := h
 clear h
 have HC2 := Aside0.mk H
 clear H
 go_enter Try.func35, Try.ntmps35
 go_wp2_with (first | ((with_reducible refine gate_dst (N := 2) rfl ?_); refine box_event ?hg (N := 2) ?hd (cs := #[.int .i64 0, .int .u64 0, .int .u64 0, .int .u64 0, .int .u64 0, .slice none 0 0]) (t := 52) ?hr ?_; (case hd => rfl); (case hg => rfl); (case hr => first | (go_simp; done) | (go_simp; rfl)); intro gb241 hg w3 hbox hb; have n0_ := Aside0.mk (IsS76.below (by repeat (first | (with_reducible first | exact HI0.out | apply IsS76.alloc | apply IsS76.drewN | apply IsS76.drew | apply IsS76.set_0 | apply IsS76.set_1 | apply IsS76.set_2 | apply IsS76.set_3 | apply IsS76.set_4) | exact HI0.out)) hb); have n1_ := Aside0.mk (KeepBut.trans qd13 (KeepBut.of_below hb g none) (.inl rfl)); have n2_ := Aside0.mk (below_step (by repeat (first | (with_reducible first | exact HB.out | apply below_alloc | apply pw_below_drewN | apply below_drew1 | refine below_set ?_ (IsS76.ge HI0.out)) | exact HB.out)) hb); have n3_ := Aside0.mk (hbox); have n4_ := Aside0.mk ((by rw [hg]; exact (keep_size (w := w) (g := g) (row := none) qd13) : w.heap.size ≤ gb241)); have n5_ := Aside0.mk ((Nat.le_trans HW0.out (by rw [hg]; exact (keep_size (w := w) (g := g) (row := none) qd13) : w.heap.size ≤ gb241) : w0.heap.size ≤ gb241)); have n6_ := Aside0.mk ((by rw [hg]; exact Nat.ne_of_lt (IsS76.lt (show IsS76 w0 _ g s0_0 s0_1 s0_2 s0_3 s0_4 from by repeat (first | (with_reducible first | exact HI0.out | apply IsS76.alloc | apply IsS76.drewN | apply IsS76.drew | apply IsS76.set_0 | apply IsS76.set_1 | apply IsS76.set_2 | apply IsS76.set_3 | apply IsS76.set_4) | exact HI0.out))) : g ≠ gb241)); have n7_ := Aside0.mk ((by rw [hg]; exact Nat.ne_of_gt (IsS76.lt (show IsS76 w0 _ g s0_0 s0_1 s0_2 s0_3 s0_4 from by repeat (first | (with_reducible first | exact HI0.out | apply IsS76.alloc | apply IsS76.drewN | apply IsS76.drew | apply IsS76.set_0 | apply IsS76.set_1 | apply IsS76.set_2 | apply IsS76.set_3 | apply IsS76.set_4) | exact HI0.out))) : gb241 ≠ g)); clear HI0; clear HK; clear HB; have HI0 := n0_; have HK := n1_; have HB := n2_; have BK241 := n3_; have GW241 := n4_; have GE241 := n5_; have NB0_241 := n6_; have NB241_0 := n7_; clear n0_ n1_ n2_ n3_ n4_ n5_ n6_ n7_; clear hb hbox hg))
 apply wp_scope_straight
 go_wp2
 apply wp_label
 go_upto_block 0 with (fail)
 (try simp only [Act.put, List.setIfInBounds_toArray, List.set_cons_zero, List.set_cons_succ])
 go_cut [3] (fun v3 wc => ∃ (kq : Nat) (x3_1 : List (S52)) (x1000_1 : ByteArray) (x1001_1 : Int) (x1002_1 : Int) (x1003_1 : Int) (x1004_1 : Int), Aside0 (regex_reader_cat.j3 kq x3_1 x1000_1 x1001_1 x1002_1 x1003_1 x1004_1 = some (r1, r2, r3, r4, r5, r6, r7, r8, r9, r10, r11)) ∧ Aside0 (kq ≤ k) ∧ Aside0 (Kd.R k52 52 wc w.heap.size (fun k_ => k_ ≠ gb241) v3 x3_1) ∧ Aside0 (wc.heap[gb241]? = some (.cells #[.int .i64 0, .int .u64 0, .int .u64 0, .int .u64 0, .int .u64 0, (.slice none 0 0)] 52 (0, 0))) ∧ Aside0 (IsS76 w0 wc g x1000_1 x1001_1 x1002_1 x1003_1 x1004_1) ∧ Aside0 (KeepBut w wc g none) ∧ Aside0 (Below w0.heap.size w0 wc))
 case first =>
  have H := HC2.out
  clear HC2
  have H' := Aside0.mk H
  clear H
  go_wp2
  go_loopg [3] k (fun kq v3 w' => ∃ (x3_1 : List (S52)) (x1000_1 : ByteArray) (x1001_1 : Int) (x1002_1 : Int) (x1003_1 : Int) (x1004_1 : Int), Aside0 (regex_reader_cat.l0 kq x3_1 x1000_1 x1001_1 x1002_1 x1003_1 x1004_1 = some (r1, r2, r3, r4, r5, r6, r7, r8, r9, r10, r11)) ∧ Aside0 (kq ≤ k) ∧ Aside0 (Kd.R k52 52 w' w.heap.size (fun k_ => k_ ≠ gb241) v3 x3_1) ∧ Aside0 (w'.heap[gb241]? = some (.cells #[.int .i64 0, .int .u64 0, .int .u64 0, .int .u64 0, .int .u64 0, (.slice none 0 0)] 52 (0, 0))) ∧ Aside0 (IsS76 w0 w' g x1000_1 x1001_1 x1002_1 x1003_1 x1004_1) ∧ Aside0 (KeepBut w w' g none) ∧ Aside0 (Below w0.heap.size w0 w'))
  case atStart => exact ⟨(([] : List (S52))), (s0_0), (s0_1), (s0_2), (s0_3), (s0_4), H', ⟨Nat.le_refl _⟩, ⟨by first | exact Kd.R_nil _ _ _ _ _ | exact Kd.N_nil _ _ _ _ _ | exact Kd.V_nil _ _ _ _ _ | exact Kd.Q_nil _ _ _ _ _ | exact Kd.S_nil _ _ _ _ _⟩, ⟨by (with_reducible repeat (first | refine blk_drewN ?_ _ | refine blk_drew ?_ | refine blk_alloc ?_ _)); exact BK241.out⟩, ⟨by repeat (first | (with_reducible first | exact HI0.out | apply IsS76.alloc | apply IsS76.drewN | apply IsS76.drew | apply IsS76.set_0 | apply IsS76.set_1 | apply IsS76.set_2 | apply IsS76.set_3 | apply IsS76.set_4 | apply IsS76.far (hne := NB0_241.out)) | exact HI0.out)⟩, ⟨by repeat (first | (with_reducible first | exact HK.out | apply KeepBut.set_ | apply keep_drewN | apply keep_drew | apply keep_alloc | refine keep_far ?_ GW241.out _) | exact HK.out)⟩, ⟨by repeat (first | (with_reducible first | exact HB.out | apply below_alloc | apply pw_below_drewN | apply below_drew1 | refine below_set ?_ (IsS76.ge HI0.out) | refine below_set ?_ GE241.out) | exact HB.out)⟩⟩
  case round =>
   clear H'
   try clear p2
   try clear c3
   obtain ⟨x3_1, x1000_1, x1001_1, x1002_1, x1003_1, x1004_1, HA, HK1, HO_3, BK241, HI0, HK, HB⟩ := hrel
   cases gk with
   | zero => exact absurd HA.out (by simp [regex_reader_cat.l0])
   | succ k1 =>
    have H := HA.out
    clear HA
    simp only [regex_reader_cat.l0] at H
    replace H := Option.bind_eq_some_iff.mp H
    obtain ⟨⟨t242, t243, t244, t245, t246, t247, t248⟩, A40, H⟩ := H
    replace H : (if t243 = true then (if t242 = 124 then (regex_reader_cat.j1 k1 x3_1 t242 (t242 == 124) t244 t245 t246 t247 t248) else (if t242 = 41 then (regex_reader_cat.j1 k1 x3_1 t242 (decide (t246 > 0)) t244 t245 t246 t247 t248) else (regex_reader_cat.j1 k1 x3_1 t242 false t244 t245 t246 t247 t248))) else (regex_reader_cat.j1 k1 x3_1 t242 (!t243) t244 t245 t246 t247 t248)) = some (r1, r2, r3, r4, r5, r6, r7, r8, r9, r10, r11) := H
    have A4 := Aside0.mk A40
    clear A40
    have HC5 := Aside0.mk H
    clear H
    go_upto_if 15 with (first | ((with_reducible refine gate_callee (f := 36) rfl ?_); refine goesL_ (some 12) rfl rfl Try.func36 (by kernel_rfl) rfl #[.pointer (some ⟨g, 0, none⟩)] rfl qd7 ?_; (with_reducible refine (regex_reader_next.calls g x1000_1 x1001_1 x1002_1 x1003_1 x1004_1 t242 t243 t244 t245 t246 t247 t248 w0 _ ?side1 ?side2 ?side3 A4.out).mono ?_); (case side1 => repeat (first | (with_reducible first | exact HI0.out | apply IsS76.alloc | apply IsS76.drewN | apply IsS76.drew | apply IsS76.set_0 | apply IsS76.set_1 | apply IsS76.set_2 | apply IsS76.set_3 | apply IsS76.set_4 | apply IsS76.far (hne := NB0_241.out)) | exact HI0.out)); (case side2 => repeat (first | (with_reducible first | exact HB.out | apply below_alloc | apply pw_below_drewN | apply below_drew1 | refine below_set ?_ (IsS76.ge HI0.out) | refine below_set ?_ GE241.out) | exact HB.out)); (case side3 => exact hT); rintro e w6 ⟨rfl, hi, hb, hk⟩; refine ⟨_, rfl, ?_⟩; have n0_ := Aside0.mk (Kd.R_mono (Kd.R_keep (IsS76.apart (show IsS76 w0 _ g x1000_1 x1001_1 x1002_1 x1003_1 x1004_1 from by repeat (first | (with_reducible first | exact HI0.out | apply IsS76.alloc | apply IsS76.drewN | apply IsS76.drew | apply IsS76.set_0 | apply IsS76.set_1 | apply IsS76.set_2 | apply IsS76.set_3 | apply IsS76.set_4 | apply IsS76.far (hne := NB0_241.out)) | exact HI0.out)) qd5 qd16) hk (fun _ h => h.2)) (fun _ h => h.1)); have n1_ := Aside0.mk (KeepBut.blk hk (g' := gb241) (o := .cells #[.int .i64 0, .int .u64 0, .int .u64 0, .int .u64 0, .int .u64 0, .slice none 0 0] 52 (0, 0)) qd1 NB241_0.out (by simp)); have n2_ := Aside0.mk (KeepBut.trans qd11 hk (.inl rfl)); have n3_ := Aside0.mk (hb); have n4_ := Aside0.mk (hi); clear HO_3; clear BK241; clear HK; clear HB; clear HI0; have HO_3 := n0_; have BK241 := n1_; have HK := n2_; have HB := n3_; have HI0 := n4_; clear n0_ n1_ n2_ n3_ n4_; (try clear hb); (try clear hb2); (try clear hk); (try clear hi)))
    (try simp only [Act.put, List.setIfInBounds_toArray, List.set_cons_zero, List.set_cons_succ])
    go_cut [15] (fun v15 wc => ∃ (kq : Nat) (x15_4 : Bool), v15 = .bool x15_4 ∧ Aside0 (regex_reader_cat.j1 kq x3_1 t242 x15_4 t244 t245 t246 t247 t248 = some (r1, r2, r3, r4, r5, r6, r7, r8, r9, r10, r11)) ∧ Aside0 (kq ≤ k1) ∧ Aside0 (Kd.R k52 52 wc w.heap.size (fun k_ => k_ ≠ gb241) u3 x3_1) ∧ Aside0 (wc.heap[gb241]? = some (.cells #[.int .i64 0, .int .u64 0, .int .u64 0, .int .u64 0, .int .u64 0, (.slice none 0 0)] 52 (0, 0))) ∧ Aside0 (IsS76 w0 wc g t244 t245 t246 t247 t248) ∧ Aside0 (KeepBut w wc g none) ∧ Aside0 (Below w0.heap.size w0 wc))
    case first =>
     have H := HC5.out
     clear HC5
     by_cases c7 : t243 = true
     ·subst c7
      have H1 : (if t242 = 124 then (regex_reader_cat.j1 k1 x3_1 t242 (t242 == 124) t244 t245 t246 t247 t248) else (if t242 = 41 then (regex_reader_cat.j1 k1 x3_1 t242 (decide (t246 > 0)) t244 t245 t246 t247 t248) else (regex_reader_cat.j1 k1 x3_1 t242 false t244 t245 t246 t247 t248))) = some (r1, r2, r3, r4, r5, r6, r7, r8, r9, r10, r11) := by rw [if_pos rfl] at H; exact H
      clear H
      have H := H1
      clear H1
      by_cases c8 : t242 = 124
      ·rw [if_pos c8] at H
       have c8b0 : (t242 == 124) = true := beq_iff_eq.mpr c8
       have c8b1 : (t242 != 124) = false := bne_eq_false_iff_eq.mpr c8
       clear c8
       (first | rw [c8b0] | (simp only [i64_w, i32_w]; rw [c8b0]) | skip)
       have H' := Aside0.mk H
       clear H
       go_wp2
       go_meet
       case rel => exact ⟨_, ((t242 == 124)), qd15, H', ⟨by have := HK1.out; first | omega | exact Nat.le_refl _⟩, ⟨by (with_reducible repeat (first | apply Kd.R_alloc | apply Kd.R_drewN | apply Kd.R_drew)); exact HO_3.out⟩, ⟨by (with_reducible repeat (first | refine blk_drewN ?_ _ | refine blk_drew ?_ | refine blk_alloc ?_ _)); exact BK241.out⟩, ⟨by repeat (first | (with_reducible first | exact HI0.out | apply IsS76.alloc | apply IsS76.drewN | apply IsS76.drew | apply IsS76.set_0 | apply IsS76.set_1 | apply IsS76.set_2 | apply IsS76.set_3 | apply IsS76.set_4 | apply IsS76.far (hne := NB0_241.out)) | exact HI0.out)⟩, ⟨by repeat (first | (with_reducible first | exact HK.out | apply KeepBut.set_ | apply keep_drewN | apply keep_drew | apply keep_alloc | refine keep_far ?_ GW241.out _) | exact HK.out)⟩, ⟨by repeat (first | (with_reducible first | exact HB.out | apply below_alloc | apply pw_below_drewN | apply below_drew1 | refine below_set ?_ (IsS76.ge HI0.out) | refine below_set ?_ GE241.out) | exact HB.out)⟩⟩
      ·rw [if_neg c8] at H
       have c8b0 : (t242 == 124) = false := beq_eq_false_iff_ne.mpr c8
       have c8b1 : (t242 != 124) = true := bne_iff_ne.mpr c8
       (first | rw [c8b0] | (simp only [i64_w, i32_w]; rw [c8b0]) | skip)
       by_cases c9 : t242 = 41
       ·rw [if_pos c9] at H
        have c9b0 : (t242 == 41) = true := beq_iff_eq.mpr c9
        have c9b1 : (t242 != 41) = false := bne_eq_false_iff_eq.mpr c9
        clear c9
        have H' := Aside0.mk H
        clear H
        obtain ⟨HGz10, hgz10⟩ := HI0.out
        have hcz10_0 := cellS76_0 HGz10
        have hcz10_1 := cellS76_1 HGz10
        have hcz10_2 := cellS76_2 HGz10
        have hcz10_3 := cellS76_3 HGz10
        have hcz10_4 := cellS76_4 HGz10
        have hfz10_0 := blk_frozen HGz10 0
        have hfz10_1 := blk_frozen HGz10 1
        have hfz10_2 := blk_frozen HGz10 2
        have hfz10_3 := blk_frozen HGz10 3
        have hfz10_4 := blk_frozen HGz10 4
        clear HGz10 hgz10
        go_wp2
        go_meet
        case rel => exact ⟨_, (decide (t246 > 0)), qd15, H', ⟨by have := HK1.out; first | omega | exact Nat.le_refl _⟩, ⟨by (with_reducible repeat (first | apply Kd.R_alloc | apply Kd.R_drewN | apply Kd.R_drew)); exact HO_3.out⟩, ⟨by (with_reducible repeat (first | refine blk_drewN ?_ _ | refine blk_drew ?_ | refine blk_alloc ?_ _)); exact BK241.out⟩, ⟨by repeat (first | (with_reducible first | exact HI0.out | apply IsS76.alloc | apply IsS76.drewN | apply IsS76.drew | apply IsS76.set_0 | apply IsS76.set_1 | apply IsS76.set_2 | apply IsS76.set_3 | apply IsS76.set_4 | apply IsS76.far (hne := NB0_241.out)) | exact HI0.out)⟩, ⟨by repeat (first | (with_reducible first | exact HK.out | apply KeepBut.set_ | apply keep_drewN | apply keep_drew | apply keep_alloc | refine keep_far ?_ GW241.out _) | exact HK.out)⟩, ⟨by repeat (first | (with_reducible first | exact HB.out | apply below_alloc | apply pw_below_drewN | apply below_drew1 | refine below_set ?_ (IsS76.ge HI0.out) | refine below_set ?_ GE241.out) | exact HB.out)⟩⟩
       ·rw [if_neg c9] at H
        have c9b0 : (t242 == 41) = false := beq_eq_false_iff_ne.mpr c9
        have c9b1 : (t242 != 41) = true := bne_iff_ne.mpr c9
        have H' := Aside0.mk H
        clear H
        go_wp2
        go_meet
        case rel => exact ⟨_, (false), qd15, H', ⟨by have := HK1.out; first | omega | exact Nat.le_refl _⟩, ⟨by (with_reducible repeat (first | apply Kd.R_alloc | apply Kd.R_drewN | apply Kd.R_drew)); exact HO_3.out⟩, ⟨by (with_reducible repeat (first | refine blk_drewN ?_ _ | refine blk_drew ?_ | refine blk_alloc ?_ _)); exact BK241.out⟩, ⟨by repeat (first | (with_reducible first | exact HI0.out | apply IsS76.alloc | apply IsS76.drewN | apply IsS76.drew | apply IsS76.set_0 | apply IsS76.set_1 | apply IsS76.set_2 | apply IsS76.set_3 | apply IsS76.set_4 | apply IsS76.far (hne := NB0_241.out)) | exact HI0.out)⟩, ⟨by repeat (first | (with_reducible first | exact HK.out | apply KeepBut.set_ | apply keep_drewN | apply keep_drew | apply keep_alloc | refine keep_far ?_ GW241.out _) | exact HK.out)⟩, ⟨by repeat (first | (with_reducible first | exact HB.out | apply below_alloc | apply pw_below_drewN | apply below_drew1 | refine below_set ?_ (IsS76.ge HI0.out) | refine below_set ?_ GE241.out) | exact HB.out)⟩⟩
     ·replace c7 := Bool.eq_false_iff.mpr c7
      subst c7
      have H1 : (regex_reader_cat.j1 k1 x3_1 t242 (!false) t244 t245 t246 t247 t248) = some (r1, r2, r3, r4, r5, r6, r7, r8, r9, r10, r11) := by rw [if_neg (show ¬ (false = true) by decide)] at H; exact H
      clear H
      have H := H1
      clear H1
      have H' := Aside0.mk H
      clear H
      go_wp2
      go_meet
      case rel => exact ⟨_, (!false), qd15, H', ⟨by have := HK1.out; first | omega | exact Nat.le_refl _⟩, ⟨by (with_reducible repeat (first | apply Kd.R_alloc | apply Kd.R_drewN | apply Kd.R_drew)); exact HO_3.out⟩, ⟨by (with_reducible repeat (first | refine blk_drewN ?_ _ | refine blk_drew ?_ | refine blk_alloc ?_ _)); exact BK241.out⟩, ⟨by repeat (first | (with_reducible first | exact HI0.out | apply IsS76.alloc | apply IsS76.drewN | apply IsS76.drew | apply IsS76.set_0 | apply IsS76.set_1 | apply IsS76.set_2 | apply IsS76.set_3 | apply IsS76.set_4 | apply IsS76.far (hne := NB0_241.out)) | exact HI0.out)⟩, ⟨by repeat (first | (with_reducible first | exact HK.out | apply KeepBut.set_ | apply keep_drewN | apply keep_drew | apply keep_alloc | refine keep_far ?_ GW241.out _) | exact HK.out)⟩, ⟨by repeat (first | (with_reducible first | exact HB.out | apply below_alloc | apply pw_below_drewN | apply below_drew1 | refine below_set ?_ (IsS76.ge HI0.out) | refine below_set ?_ GE241.out) | exact HB.out)⟩⟩
    case rest =>
     clear HC5
     try clear p2
     try clear c3
     try clear p6
     try clear c7
     try clear c8
     try clear c8b0
     try clear c8b1
     try clear c9
     try clear c9b0
     try clear c9b1
     try clear hcz10_0
     try clear hcz10_1
     try clear hcz10_2
     try clear hcz10_3
     try clear hcz10_4
     try clear hfz10_0
     try clear hfz10_1
     try clear hfz10_2
     try clear hfz10_3
     try clear hfz10_4
     try clear p2
     obtain ⟨kq, x15_4, rfl, HA, HJ4, HO_3, BK241, HI0, HK, HB⟩ := hcut
     cases kq with
     | zero => exact absurd HA.out (by simp [regex_reader_cat.j1])
     | succ kj4 =>
      have H := HA.out
      clear HA
      simp only [regex_reader_cat.j1] at H
      by_cases c11 : x15_4 = true
      ·subst c11
       have H1 : (regex_reader_cat.j3 kj4 x3_1 t244 t245 t246 t247 t248) = some (r1, r2, r3, r4, r5, r6, r7, r8, r9, r10, r11) := by rw [if_pos rfl] at H; exact H
       clear H
       have H := H1
       clear H1
       have H' := Aside0.mk H
       clear H
       go_wp2
       go_meet
       case rel => exact ⟨_, (x3_1), (t244), (t245), (t246), (t247), (t248), H', ⟨by have := HK1.out; have := HJ4.out; first | omega | exact Nat.le_refl _⟩, ⟨by (with_reducible repeat (first | apply Kd.R_alloc | apply Kd.R_drewN | apply Kd.R_drew)); exact HO_3.out⟩, ⟨by (with_reducible repeat (first | refine blk_drewN ?_ _ | refine blk_drew ?_ | refine blk_alloc ?_ _)); exact BK241.out⟩, ⟨by repeat (first | (with_reducible first | exact HI0.out | apply IsS76.alloc | apply IsS76.drewN | apply IsS76.drew | apply IsS76.set_0 | apply IsS76.set_1 | apply IsS76.set_2 | apply IsS76.set_3 | apply IsS76.set_4 | apply IsS76.far (hne := NB0_241.out)) | exact HI0.out)⟩, ⟨by repeat (first | (with_reducible first | exact HK.out | apply KeepBut.set_ | apply keep_drewN | apply keep_drew | apply keep_alloc | refine keep_far ?_ GW241.out _) | exact HK.out)⟩, ⟨by repeat (first | (with_reducible first | exact HB.out | apply below_alloc | apply pw_below_drewN | apply below_drew1 | refine below_set ?_ (IsS76.ge HI0.out) | refine below_set ?_ GE241.out) | exact HB.out)⟩⟩
      ·replace c11 := Bool.eq_false_iff.mpr c11
       subst c11
       have H1 : (if t242 = 41 then ((regex_reader_fail.f t244 t245 t246 t247 t248 t245 9).bind fun bt249 => (regex_reader_cat.j3 kj4 x3_1 bt249.1 bt249.2.1 bt249.2.2.1 bt249.2.2.2.1 bt249.2.2.2.2)) else ((regex_reader_atom.f kj4 t244 t245 t246 t247 t248).bind fun bt254 => (regex_reader_cat.l1 kj4 x3_1 bt254.2.2.2.2.2.2.1 bt254.2.2.2.2.2.2.2.1 bt254.2.2.2.2.2.2.2.2.1 bt254.2.2.2.2.2.2.2.2.2.1 bt254.2.2.2.2.2.2.2.2.2.2 bt254.1 bt254.2.1 bt254.2.2.1 bt254.2.2.2.1 bt254.2.2.2.2.1 bt254.2.2.2.2.2.1))) = some (r1, r2, r3, r4, r5, r6, r7, r8, r9, r10, r11) := by rw [if_neg (show ¬ (false = true) by decide)] at H; exact H
       clear H
       have H := H1
       clear H1
       by_cases c12 : t242 = 41
       ·rw [if_pos c12] at H
        have c12b0 : (t242 == 41) = true := beq_iff_eq.mpr c12
        have c12b1 : (t242 != 41) = false := bne_eq_false_iff_eq.mpr c12
        clear c12
        replace H := Option.bind_eq_some_iff.mp H
        obtain ⟨⟨t249, t250, t251, t252, t253⟩, A130, H⟩ := H
        replace H : (regex_reader_cat.j3 kj4 x3_1 t249 t250 t251 t252 t253) = some (r1, r2, r3, r4, r5, r6, r7, r8, r9, r10, r11) := H
        have A13 := Aside0.mk A130
        clear A130
        have H' := Aside0.mk H
        clear H
        obtain ⟨HGz14, hgz14⟩ := HI0.out
        have hcz14_0 := cellS76_0 HGz14
        have hcz14_1 := cellS76_1 HGz14
        have hcz14_2 := cellS76_2 HGz14
        have hcz14_3 := cellS76_3 HGz14
        have hcz14_4 := cellS76_4 HGz14
        have hfz14_0 := blk_frozen HGz14 0
        have hfz14_1 := blk_frozen HGz14 1
        have hfz14_2 := blk_frozen HGz14 2
        have hfz14_3 := blk_frozen HGz14 3
        have hfz14_4 := blk_frozen HGz14 4
        clear HGz14 hgz14
        go_wp2_with (first | ((with_reducible refine gate_callee (f := 41) rfl ?_); refine goesL_ (some 37) rfl rfl Try.func41 (by kernel_rfl) rfl #[.pointer (some ⟨g, 0, none⟩), .int .i64 t245, .int .i64 9] rfl qd7 ?_; (with_reducible refine (regex_reader_fail.calls g t244 t245 t246 t247 t248 t245 9 t249 t250 t251 t252 t253 w0 _ ?side1 ?side2 ?side3 A13.out).mono ?_); (case side1 => repeat (first | (with_reducible first | exact HI0.out | apply IsS76.alloc | apply IsS76.drewN | apply IsS76.drew | apply IsS76.set_0 | apply IsS76.set_1 | apply IsS76.set_2 | apply IsS76.set_3 | apply IsS76.set_4 | apply IsS76.far (hne := NB0_241.out)) | exact HI0.out)); (case side2 => repeat (first | (with_reducible first | exact HB.out | apply below_alloc | apply pw_below_drewN | apply below_drew1 | refine below_set ?_ (IsS76.ge HI0.out) | refine below_set ?_ GE241.out) | exact HB.out)); (case side3 => exact hT); rintro e w15 ⟨rfl, hi, hb, hk⟩; refine ⟨_, rfl, ?_⟩; have n0_ := Aside0.mk (Kd.R_mono (Kd.R_keep (IsS76.apart (show IsS76 w0 _ g t244 t245 t246 t247 t248 from by repeat (first | (with_reducible first | exact HI0.out | apply IsS76.alloc | apply IsS76.drewN | apply IsS76.drew | apply IsS76.set_0 | apply IsS76.set_1 | apply IsS76.set_2 | apply IsS76.set_3 | apply IsS76.set_4 | apply IsS76.far (hne := NB0_241.out)) | exact HI0.out)) qd5 qd16) hk (fun _ h => h.2)) (fun _ h => h.1)); have n1_ := Aside0.mk (KeepBut.blk hk (g' := gb241) (o := .cells #[.int .i64 0, .int .u64 0, .int .u64 0, .int .u64 0, .int .u64 0, .slice none 0 0] 52 (0, 0)) qd1 NB241_0.out (by simp)); have n2_ := Aside0.mk (KeepBut.trans qd11 hk (.inl rfl)); have n3_ := Aside0.mk (hb); have n4_ := Aside0.mk (hi); clear HO_3; clear BK241; clear HK; clear HB; clear HI0; have HO_3 := n0_; have BK241 := n1_; have HK := n2_; have HB := n3_; have HI0 := n4_; clear n0_ n1_ n2_ n3_ n4_; (try clear hb); (try clear hb2); (try clear hk); (try clear hi)))
        go_meet
        case rel => exact ⟨_, (x3_1), (t249), (t250), (t251), (t252), (t253), H', ⟨by have := HK1.out; have := HJ4.out; first | omega | exact Nat.le_refl _⟩, ⟨by (with_reducible repeat (first | apply Kd.R_alloc | apply Kd.R_drewN | apply Kd.R_drew)); exact HO_3.out⟩, ⟨by (with_reducible repeat (first | refine blk_drewN ?_ _ | refine blk_drew ?_ | refine blk_alloc ?_ _)); exact BK241.out⟩, ⟨by repeat (first | (with_reducible first | exact HI0.out | apply IsS76.alloc | apply IsS76.drewN | apply IsS76.drew | apply IsS76.set_0 | apply IsS76.set_1 | apply IsS76.set_2 | apply IsS76.set_3 | apply IsS76.set_4 | apply IsS76.far (hne := NB0_241.out)) | exact HI0.out)⟩, ⟨by repeat (first | (with_reducible first | exact HK.out | apply KeepBut.set_ | apply keep_drewN | apply keep_drew | apply keep_alloc | refine keep_far ?_ GW241.out _) | exact HK.out)⟩, ⟨by repeat (first | (with_reducible first | exact HB.out | apply below_alloc | apply pw_below_drewN | apply below_drew1 | refine below_set ?_ (IsS76.ge HI0.out) | refine below_set ?_ GE241.out) | exact HB.out)⟩⟩
       ·rw [if_neg c12] at H
        have c12b0 : (t242 == 41) = false := beq_eq_false_iff_ne.mpr c12
        have c12b1 : (t242 != 41) = true := bne_iff_ne.mpr c12
        replace H := Option.bind_eq_some_iff.mp H
        obtain ⟨⟨t254, t255, t256, t257, t258, t259, t262, t263, t264, t265, t266⟩, A160, H⟩ := H
        replace H : (regex_reader_cat.l1 kj4 x3_1 t262 t263 t264 t265 t266 t254 t255 t256 t257 t258 t259) = some (r1, r2, r3, r4, r5, r6, r7, r8, r9, r10, r11) := H
        have A16 := Aside0.mk A160
        clear A160
        have H' := Aside0.mk H
        clear H
        go_wp2_with (first | ((with_reducible refine gate_callee (f := 42) rfl ?_); refine goesL_ (some 39) rfl rfl Try.func42 (by kernel_rfl) rfl #[.pointer (some ⟨g, 0, none⟩)] rfl qd7 ?_; (with_reducible refine (ih_regex_reader_atom kj4 (by have := HK1.out; have := HJ4.out; omega) g t244 t245 t246 t247 t248 t254 t255 t256 t257 t258 t259 t262 t263 t264 t265 t266 w0 _ ?side1 ?side2 ?side3 A16.out).mono ?_); (case side1 => repeat (first | (with_reducible first | exact HI0.out | apply IsS76.alloc | apply IsS76.drewN | apply IsS76.drew | apply IsS76.set_0 | apply IsS76.set_1 | apply IsS76.set_2 | apply IsS76.set_3 | apply IsS76.set_4 | apply IsS76.far (hne := NB0_241.out)) | exact HI0.out)); (case side2 => repeat (first | (with_reducible first | exact HB.out | apply below_alloc | apply pw_below_drewN | apply below_drew1 | refine below_set ?_ (IsS76.ge HI0.out) | refine below_set ?_ GE241.out) | exact HB.out)); (case side3 => exact hT); rintro e w17 ⟨v260, rfl, ho0, hi, hb, hk⟩; refine ⟨_, rfl, ?_⟩; have n0_ := Aside0.mk (Kd.R_mono (Kd.R_told (Kd.R_oldK (IsS76.apart (show IsS76 w0 _ g t244 t245 t246 t247 t248 from by repeat (first | (with_reducible first | exact HI0.out | apply IsS76.alloc | apply IsS76.drewN | apply IsS76.drew | apply IsS76.set_0 | apply IsS76.set_1 | apply IsS76.set_2 | apply IsS76.set_3 | apply IsS76.set_4 | apply IsS76.far (hne := NB0_241.out)) | exact HI0.out)) qd5 qd16) hk) (Kd.R_base ho0)) (fun _ h_ => h_.1)); have n1_ := Aside0.mk (KeepBut.blk hk (g' := gb241) (o := .cells #[.int .i64 0, .int .u64 0, .int .u64 0, .int .u64 0, .int .u64 0, .slice none 0 0] 52 (0, 0)) qd1 NB241_0.out (by simp)); have n2_ := Aside0.mk (Kd.R_lower (Kd.R_newB (Kd.R_new' ho0 (Kd.R_lt qd5)) (g := gb241) (o := .cells #[.int .i64 0, .int .u64 0, .int .u64 0, .int .u64 0, .int .u64 0, .slice none 0 0] 52 (0, 0)) qd1) (keep_size (w := w) (g := g) (row := none) qd11)); have n3_ := Aside0.mk (KeepBut.trans qd11 hk (.inl rfl)); have n4_ := Aside0.mk (hb); have n5_ := Aside0.mk (hi); clear HO_3; clear BK241; clear HK; clear HB; clear HI0; have HO_3 := n0_; have BK241 := n1_; have HO261 := n2_; have HK := n3_; have HB := n4_; have HI0 := n5_; clear n0_ n1_ n2_ n3_ n4_ n5_; (try clear hb); (try clear hb2); (try clear hk); (try clear hi); (try clear ho0)) | ((with_reducible refine gate_dst (N := 6) rfl ?_); refine box_event ?hg (N := 6) ?hd (cs := #[.int .i64 0, .int .u64 0, .int .u64 0, .int .u64 0, .int .u64 0, .slice none 0 0]) (t := 52) ?hr ?_; (case hd => rfl); (case hg => rfl); (case hr => first | (go_simp; done) | (go_simp; rfl)); intro gb267 hg w18 hbox hb; have n0_ := Aside0.mk (Kd.R_below (Kd.R_elderB qd5 gb267 (Nat.le_of_eq hg.symm)) hb); have n1_ := Aside0.mk (Kd.R_below (Kd.R_elderB (by (with_reducible repeat (first | apply Kd.R_alloc | apply Kd.R_drewN | apply Kd.R_drew)); exact HO261.out) gb267 (Nat.le_of_eq hg.symm)) hb); have n2_ := Aside0.mk (blk_below (g := gb241) (o := .cells #[.int .i64 0, .int .u64 0, .int .u64 0, .int .u64 0, .int .u64 0, .slice none 0 0] 52 (0, 0)) qd1 hb); have n3_ := Aside0.mk (IsS76.below (by repeat (first | (with_reducible first | exact HI0.out | apply IsS76.alloc | apply IsS76.drewN | apply IsS76.drew | apply IsS76.set_0 | apply IsS76.set_1 | apply IsS76.set_2 | apply IsS76.set_3 | apply IsS76.set_4 | apply IsS76.far (hne := NB0_241.out)) | exact HI0.out)) hb); have n4_ := Aside0.mk (KeepBut.trans qd11 (KeepBut.of_below hb g none) (.inl rfl)); have n5_ := Aside0.mk (below_step (by repeat (first | (with_reducible first | exact HB.out | apply below_alloc | apply pw_below_drewN | apply below_drew1 | refine below_set ?_ (IsS76.ge HI0.out) | refine below_set ?_ GE241.out) | exact HB.out)) hb); have n6_ := Aside0.mk (hbox); have n7_ := Aside0.mk ((by rw [hg]; exact (keep_size (w := w) (g := g) (row := none) qd11) : w.heap.size ≤ gb267)); have n8_ := Aside0.mk ((Nat.le_trans HW0.out (by rw [hg]; exact (keep_size (w := w) (g := g) (row := none) qd11) : w.heap.size ≤ gb267) : w0.heap.size ≤ gb267)); have n9_ := Aside0.mk ((by rw [hg]; exact Nat.ne_of_lt (blk_lt (g := gb241) (o := .cells #[.int .i64 0, .int .u64 0, .int .u64 0, .int .u64 0, .int .u64 0, .slice none 0 0] 52 (0, 0)) qd1) : gb241 ≠ gb267)); have n10_ := Aside0.mk ((by rw [hg]; exact Nat.ne_of_gt (blk_lt (g := gb241) (o := .cells #[.int .i64 0, .int .u64 0, .int .u64 0, .int .u64 0, .int .u64 0, .slice none 0 0] 52 (0, 0)) qd1) : gb267 ≠ gb241)); have n11_ := Aside0.mk ((by rw [hg]; exact Nat.ne_of_lt (IsS76.lt (show IsS76 w0 _ g t262 t263 t264 t265 t266 from by repeat (first | (with_reducible first | exact HI0.out | apply IsS76.alloc | apply IsS76.drewN | apply IsS76.drew | apply IsS76.set_0 | apply IsS76.set_1 | apply IsS76.set_2 | apply IsS76.set_3 | apply IsS76.set_4 | apply IsS76.far (hne := NB0_241.out)) | exact HI0.out))) : g ≠ gb267)); have n12_ := Aside0.mk ((by rw [hg]; exact Nat.ne_of_gt (IsS76.lt (show IsS76 w0 _ g t262 t263 t264 t265 t266 from by repeat (first | (with_reducible first | exact HI0.out | apply IsS76.alloc | apply IsS76.drewN | apply IsS76.drew | apply IsS76.set_0 | apply IsS76.set_1 | apply IsS76.set_2 | apply IsS76.set_3 | apply IsS76.set_4 | apply IsS76.far (hne := NB0_241.out)) | exact HI0.out))) : gb267 ≠ g)); clear HO_3; clear HO261; clear BK241; clear HI0; clear HK; clear HB; have HO_3 := n0_; have HO261 := n1_; have BK241 := n2_; have HI0 := n3_; have HK := n4_; have HB := n5_; have BK267 := n6_; have GW267 := n7_; have GE267 := n8_; have NB241_267 := n9_; have NB267_241 := n10_; have NB0_267 := n11_; have NB267_0 := n12_; clear n0_ n1_ n2_ n3_ n4_ n5_ n6_ n7_ n8_ n9_ n10_ n11_ n12_; clear hb hbox hg; have hnb19 := NB267_241.out; have hnc19 := NB241_267.out; have hnb20 := NB267_0.out; have hnc20 := NB0_267.out; have hcz21_0 : w18.cell? ⟨gb267, 0, none⟩ = some (.int .i64 0) := (blk_cell BK267.out 0).trans rfl; have hcz21_1 : w18.cell? ⟨gb267, 1, none⟩ = some (.int .u64 0) := (blk_cell BK267.out 1).trans rfl; have hcz21_2 : w18.cell? ⟨gb267, 2, none⟩ = some (.int .u64 0) := (blk_cell BK267.out 2).trans rfl; have hcz21_3 : w18.cell? ⟨gb267, 3, none⟩ = some (.int .u64 0) := (blk_cell BK267.out 3).trans rfl; have hcz21_4 : w18.cell? ⟨gb267, 4, none⟩ = some (.int .u64 0) := (blk_cell BK267.out 4).trans rfl; have hcz21_5 : w18.cell? ⟨gb267, 5, none⟩ = some (.slice none 0 0) := (blk_cell BK267.out 5).trans rfl; have hfz21_0 := blk_frozen BK267.out 0; have hfz21_1 := blk_frozen BK267.out 1; have hfz21_2 := blk_frozen BK267.out 2; have hfz21_3 := blk_frozen BK267.out 3; have hfz21_4 := blk_frozen BK267.out 4; have hfz21_5 := blk_frozen BK267.out 5; obtain ⟨Ao22, co22, eo22⟩ := Kd.R_slice HO261.out; subst eo22))
        go_loopg [] kj4 (fun kq w' => ∃ (x1000_3 : ByteArray) (x1001_3 : Int) (x1002_3 : Int) (x1003_3 : Int) (x1004_3 : Int) (x268000_3 : Int) (x268001_3 : Int) (x268002_3 : Int) (x268003_3 : Int) (x268004_3 : Int) (x268005_3 : List (S52)) (u268005 : Value), Aside0 (regex_reader_cat.l1 kq x3_1 x1000_3 x1001_3 x1002_3 x1003_3 x1004_3 x268000_3 x268001_3 x268002_3 x268003_3 x268004_3 x268005_3 = some (r1, r2, r3, r4, r5, r6, r7, r8, r9, r10, r11)) ∧ Aside0 (kq ≤ kj4) ∧ Aside0 (Kd.R k52 52 w' w.heap.size (fun k_ => some k_ ≠ (u268005 : Value).ownBlock ∧ k_ ≠ gb241 ∧ k_ ≠ gb267) u3 x3_1) ∧ Aside0 (Kd.R k52 52 w' w.heap.size (fun k_ => some k_ ≠ (u3 : Value).ownBlock ∧ k_ ≠ gb241 ∧ k_ ≠ gb267) u268005 x268005_3) ∧ Aside0 (w'.heap[gb241]? = some (.cells #[.int .i64 0, .int .u64 0, .int .u64 0, .int .u64 0, .int .u64 0, (.slice none 0 0)] 52 (0, 0))) ∧ Aside0 (w'.heap[gb267]? = some (.cells #[.int .i64 x268000_3, .int .u64 x268001_3, .int .u64 x268002_3, .int .u64 x268003_3, .int .u64 x268004_3, u268005] 52 (0, 0))) ∧ Aside0 (IsS76 w0 w' g x1000_3 x1001_3 x1002_3 x1003_3 x1004_3) ∧ Aside0 (KeepBut w w' g none) ∧ Aside0 (Below w0.heap.size w0 w'))
        case atStart => exact ⟨(t262), (t263), (t264), (t265), (t266), (t254), (t255), (t256), (t257), (t258), (t259), (.slice Ao22 t259.length co22), H', ⟨Nat.le_refl _⟩, ⟨by (with_reducible repeat (first | apply Kd.R_alloc | apply Kd.R_drewN | apply Kd.R_drew)); exact Kd.R_mono (Kd.R_far (p := ⟨gb267, 5, none⟩) (Kd.R_far (p := ⟨gb267, 4, none⟩) (Kd.R_far (p := ⟨gb267, 3, none⟩) (Kd.R_far (p := ⟨gb267, 2, none⟩) (Kd.R_far (p := ⟨gb267, 1, none⟩) (Kd.R_far (p := ⟨gb267, 0, none⟩) (Kd.R_mono HO_3.out (fun k_ hk => (⟨hk, hk.2⟩ : _ ∧ k_ ≠ gb267))) (fun _ hk => hk.2) (.int .i64 t254)) (fun _ hk => hk.2) (.int .u64 t255)) (fun _ hk => hk.2) (.int .u64 t256)) (fun _ hk => hk.2) (.int .u64 t257)) (fun _ hk => hk.2) (.int .u64 t258)) (fun _ hk => hk.2) (.slice Ao22 t259.length co22)) (fun _ hk => ⟨hk.1.1.2, ⟨hk.1.1.1, hk.1.2⟩⟩)⟩, ⟨by (with_reducible repeat (first | apply Kd.R_alloc | apply Kd.R_drewN | apply Kd.R_drew)); exact Kd.R_mono (Kd.R_far (p := ⟨gb267, 5, none⟩) (Kd.R_far (p := ⟨gb267, 4, none⟩) (Kd.R_far (p := ⟨gb267, 3, none⟩) (Kd.R_far (p := ⟨gb267, 2, none⟩) (Kd.R_far (p := ⟨gb267, 1, none⟩) (Kd.R_far (p := ⟨gb267, 0, none⟩) (Kd.R_mono HO261.out (fun k_ hk => (⟨hk, hk.2⟩ : _ ∧ k_ ≠ gb267))) (fun _ hk => hk.2) (.int .i64 t254)) (fun _ hk => hk.2) (.int .u64 t255)) (fun _ hk => hk.2) (.int .u64 t256)) (fun _ hk => hk.2) (.int .u64 t257)) (fun _ hk => hk.2) (.int .u64 t258)) (fun _ hk => hk.2) (.slice Ao22 t259.length co22)) (fun _ hk => ⟨hk.1.1.1.2, ⟨hk.1.1.2, hk.1.2⟩⟩)⟩, ⟨by (with_reducible repeat (first | refine blk_drewN ?_ _ | refine blk_drew ?_ | refine blk_alloc ?_ _)); refine blk_far ?_ NB241_267.out _; (with_reducible repeat (first | refine blk_drewN ?_ _ | refine blk_drew ?_ | refine blk_alloc ?_ _)); refine blk_far ?_ NB241_267.out _; (with_reducible repeat (first | refine blk_drewN ?_ _ | refine blk_drew ?_ | refine blk_alloc ?_ _)); refine blk_far ?_ NB241_267.out _; (with_reducible repeat (first | refine blk_drewN ?_ _ | refine blk_drew ?_ | refine blk_alloc ?_ _)); refine blk_far ?_ NB241_267.out _; (with_reducible repeat (first | refine blk_drewN ?_ _ | refine blk_drew ?_ | refine blk_alloc ?_ _)); refine blk_far ?_ NB241_267.out _; (with_reducible repeat (first | refine blk_drewN ?_ _ | refine blk_drew ?_ | refine blk_alloc ?_ _)); refine blk_far ?_ NB241_267.out _; (with_reducible repeat (first | refine blk_drewN ?_ _ | refine blk_drew ?_ | refine blk_alloc ?_ _)); exact BK241.out⟩, ⟨by (with_reducible repeat (first | refine blk_drewN ?_ _ | refine blk_drew ?_ | refine blk_alloc ?_ _)); refine blk_put (cs := #[.int .i64 t254, .int .u64 t255, .int .u64 t256, .int .u64 t257, .int .u64 t258, .slice none 0 0]) ?_ 5 _ rfl; (with_reducible repeat (first | refine blk_drewN ?_ _ | refine blk_drew ?_ | refine blk_alloc ?_ _)); refine blk_put (cs := #[.int .i64 t254, .int .u64 t255, .int .u64 t256, .int .u64 t257, .int .u64 0, .slice none 0 0]) ?_ 4 _ rfl; (with_reducible repeat (first | refine blk_drewN ?_ _ | refine blk_drew ?_ | refine blk_alloc ?_ _)); refine blk_put (cs := #[.int .i64 t254, .int .u64 t255, .int .u64 t256, .int .u64 0, .int .u64 0, .slice none 0 0]) ?_ 3 _ rfl; (with_reducible repeat (first | refine blk_drewN ?_ _ | refine blk_drew ?_ | refine blk_alloc ?_ _)); refine blk_put (cs := #[.int .i64 t254, .int .u64 t255, .int .u64 0, .int .u64 0, .int .u64 0, .slice none 0 0]) ?_ 2 _ rfl; (with_reducible repeat (first | refine blk_drewN ?_ _ | refine blk_drew ?_ | refine blk_alloc ?_ _)); refine blk_put (cs := #[.int .i64 t254, .int .u64 0, .int .u64 0, .int .u64 0, .int .u64 0, .slice none 0 0]) ?_ 1 _ rfl; (with_reducible repeat (first | refine blk_drewN ?_ _ | refine blk_drew ?_ | refine blk_alloc ?_ _)); refine blk_put (cs := #[.int .i64 0, .int .u64 0, .int .u64 0, .int .u64 0, .int .u64 0, .slice none 0 0]) ?_ 0 _ rfl; (with_reducible repeat (first | refine blk_drewN ?_ _ | refine blk_drew ?_ | refine blk_alloc ?_ _)); exact BK267.out⟩, ⟨by repeat (first | (with_reducible first | exact HI0.out | apply IsS76.alloc | apply IsS76.drewN | apply IsS76.drew | apply IsS76.set_0 | apply IsS76.set_1 | apply IsS76.set_2 | apply IsS76.set_3 | apply IsS76.set_4 | apply IsS76.far (hne := NB0_241.out) | apply IsS76.far (hne := NB0_267.out)) | exact HI0.out)⟩, ⟨by repeat (first | (with_reducible first | exact HK.out | apply KeepBut.set_ | apply keep_drewN | apply keep_drew | apply keep_alloc | refine keep_far ?_ GW241.out _ | refine keep_far ?_ GW267.out _) | exact HK.out)⟩, ⟨by repeat (first | (with_reducible first | exact HB.out | apply below_alloc | apply pw_below_drewN | apply below_drew1 | refine below_set ?_ (IsS76.ge HI0.out) | refine below_set ?_ GE241.out | refine below_set ?_ GE267.out) | exact HB.out)⟩⟩
        case round =>
         clear H'
         try clear c1
         try clear c2
         try clear p2
         try clear c3
         try clear c4
         try clear p6
         try clear c7
         try clear c8
         try clear c8b0
         try clear c8b1
         try clear c9
         try clear c9b0
         try clear c9b1
         try clear c11
         try clear c12
         try clear c12b0
         try clear c12b1
         try clear c19
         try clear c20
         try clear hcz10_0
         try clear hcz10_1
         try clear hcz10_2
         try clear hcz10_3
         try clear hcz10_4
         try clear hcz14_0
         try clear hcz14_1
         try clear hcz14_2
         try clear hcz14_3
         try clear hcz14_4
         try clear hcz21_0
         try clear hcz21_1
         try clear hcz21_2
         try clear hcz21_3
         try clear hcz21_4
         try clear hcz21_5
         try clear hfz10_0
         try clear hfz10_1
         try clear hfz10_2
         try clear hfz10_3
         try clear hfz10_4
         try clear hfz14_0
         try clear hfz14_1
         try clear hfz14_2
         try clear hfz14_3
         try clear hfz14_4
         try clear hfz21_0
         try clear hfz21_1
         try clear hfz21_2
         try clear hfz21_3
         try clear hfz21_4
         try clear hfz21_5
         try clear p2
         try clear p6
         obtain ⟨x1000_3, x1001_3, x1002_3, x1003_3, x1004_3, x268000_3, x268001_3, x268002_3, x268003_3, x268004_3, x268005_3, u268005, HA, HK3, HO_3, HO_268005, BK241, BK267, HI0, HK, HB⟩ := hrel
         cases gk with
         | zero => exact absurd HA.out (by simp [regex_reader_cat.l1])
         | succ k3 =>
          have H := HA.out
          clear HA
          simp only [regex_reader_cat.l1] at H
          replace H := Option.bind_eq_some_iff.mp H
          obtain ⟨⟨t268, t269, t270, t271, t272, t273, t274⟩, A230, H⟩ := H
          replace H : (if t268 = 42 then (if t269 = true then (regex_reader_cat.l1 k3 x3_1 t270 (wrap64 (t271 + 1)) t272 t273 t274 4 0 0 0 0 (([(⟨x268000_3, (⟨x268001_3, x268002_3, x268003_3, x268004_3⟩ : S49), x268005_3⟩ : S52)] : List (S52)))) else (if x3_1.length < 2199023255552 then (regex_reader_cat.l0 k3 (x3_1 ++ [(⟨x268000_3, (⟨x268001_3, x268002_3, x268003_3, x268004_3⟩ : S49), x268005_3⟩ : S52)]) t270 t271 t272 t273 t274) else (none))) else (if t268 = 43 then (if t269 = true then (regex_reader_cat.l1 k3 x3_1 t270 (wrap64 (t271 + 1)) t272 t273 t274 5 0 0 0 0 (([(⟨x268000_3, (⟨x268001_3, x268002_3, x268003_3, x268004_3⟩ : S49), x268005_3⟩ : S52)] : List (S52)))) else (if x3_1.length < 2199023255552 then (regex_reader_cat.l0 k3 (x3_1 ++ [(⟨x268000_3, (⟨x268001_3, x268002_3, x268003_3, x268004_3⟩ : S49), x268005_3⟩ : S52)]) t270 t271 t272 t273 t274) else (none))) else (if t268 = 63 then (if t269 = true then (regex_reader_cat.l1 k3 x3_1 t270 (wrap64 (t271 + 1)) t272 t273 t274 6 0 0 0 0 (([(⟨x268000_3, (⟨x268001_3, x268002_3, x268003_3, x268004_3⟩ : S49), x268005_3⟩ : S52)] : List (S52)))) else (if x3_1.length < 2199023255552 then (regex_reader_cat.l0 k3 (x3_1 ++ [(⟨x268000_3, (⟨x268001_3, x268002_3, x268003_3, x268004_3⟩ : S49), x268005_3⟩ : S52)]) t270 t271 t272 t273 t274) else (none))) else (if t269 = true then (if x3_1.length < 2199023255552 then (regex_reader_cat.l0 k3 (x3_1 ++ [(⟨x268000_3, (⟨x268001_3, x268002_3, x268003_3, x268004_3⟩ : S49), x268005_3⟩ : S52)]) t270 t271 t272 t273 t274) else (none)) else (if x3_1.length < 2199023255552 then (regex_reader_cat.l0 k3 (x3_1 ++ [(⟨x268000_3, (⟨x268001_3, x268002_3, x268003_3, x268004_3⟩ : S49), x268005_3⟩ : S52)]) t270 t271 t272 t273 t274) else (none)))))) = some (r1, r2, r3, r4, r5, r6, r7, r8, r9, r10, r11) := H
          have A23 := Aside0.mk A230
          clear A230
          by_cases c24 : t268 = 42
          ·rw [if_pos c24] at H
           have c24b0 : (t268 == 42) = true := beq_iff_eq.mpr c24
           have c24b1 : (t268 != 42) = false := bne_eq_false_iff_eq.mpr c24
           clear c24
           by_cases c25 : t269 = true
           ·subst c25
            have H1 : (regex_reader_cat.l1 k3 x3_1 t270 (wrap64 (t271 + 1)) t272 t273 t274 4 0 0 0 0 (([(⟨x268000_3, (⟨x268001_3, x268002_3, x268003_3, x268004_3⟩ : S49), x268005_3⟩ : S52)] : List (S52)))) = some (r1, r2, r3, r4, r5, r6, r7, r8, r9, r10, r11) := by rw [if_pos rfl] at H; exact H
            clear H
            have H := H1
            clear H1
            obtain ⟨y275, hy275⟩ : ∃ y_ : List (S52), y_ = (([(⟨x268000_3, (⟨x268001_3, x268002_3, x268003_3, x268004_3⟩ : S49), x268005_3⟩ : S52)] : List (S52))) := ⟨_, rfl⟩
            replace H : (regex_reader_cat.l1 k3 x3_1 t270 (wrap64 (t271 + 1)) t272 t273 t274 4 0 0 0 0 y275) = some (r1, r2, r3, r4, r5, r6, r7, r8, r9, r10, r11) := by first | (rw [hy275]; with_reducible exact H) | (have H2_ := (Option.bind_some _ _).symm.trans H; rw [hy275]; with_reducible exact H2_) | (have H2_ := (Option.bind_some _ _).symm.trans H; with_reducible exact H2_) | with_reducible exact H | (rw [hy275]; exact H) | exact H
            have Ny275 := Aside0.mk hy275
            clear hy275
            have H' := Aside0.mk H
            clear H
            go_wp2_with (first | ((with_reducible refine gate_callee (f := 36) rfl ?_); refine goesL_ (some 42) rfl rfl Try.func36 (by kernel_rfl) rfl #[.pointer (some ⟨g, 0, none⟩)] rfl qd7 ?_; (with_reducible refine (regex_reader_next.calls g x1000_3 x1001_3 x1002_3 x1003_3 x1004_3 t268 true t270 t271 t272 t273 t274 w0 _ ?side1 ?side2 ?side3 A23.out).mono ?_); (case side1 => repeat (first | (with_reducible first | exact HI0.out | apply IsS76.alloc | apply IsS76.drewN | apply IsS76.drew | apply IsS76.set_0 | apply IsS76.set_1 | apply IsS76.set_2 | apply IsS76.set_3 | apply IsS76.set_4 | apply IsS76.far (hne := NB0_241.out) | apply IsS76.far (hne := NB0_267.out)) | exact HI0.out)); (case side2 => repeat (first | (with_reducible first | exact HB.out | apply below_alloc | apply pw_below_drewN | apply below_drew1 | refine below_set ?_ (IsS76.ge HI0.out) | refine below_set ?_ GE241.out | refine below_set ?_ GE267.out) | exact HB.out)); (case side3 => exact hT); rintro e w26 ⟨rfl, hi, hb, hk⟩; refine ⟨_, rfl, ?_⟩; have n0_ := Aside0.mk (Kd.R_mono (Kd.R_keep (IsS76.apart (show IsS76 w0 _ g x1000_3 x1001_3 x1002_3 x1003_3 x1004_3 from by repeat (first | (with_reducible first | exact HI0.out | apply IsS76.alloc | apply IsS76.drewN | apply IsS76.drew | apply IsS76.set_0 | apply IsS76.set_1 | apply IsS76.set_2 | apply IsS76.set_3 | apply IsS76.set_4 | apply IsS76.far (hne := NB0_241.out) | apply IsS76.far (hne := NB0_267.out)) | exact HI0.out)) qd5 qd16) hk (fun _ h => h.2)) (fun _ h => h.1)); have n1_ := Aside0.mk (Kd.R_mono (Kd.R_keep (IsS76.apart (show IsS76 w0 _ g x1000_3 x1001_3 x1002_3 x1003_3 x1004_3 from by repeat (first | (with_reducible first | exact HI0.out | apply IsS76.alloc | apply IsS76.drewN | apply IsS76.drew | apply IsS76.set_0 | apply IsS76.set_1 | apply IsS76.set_2 | apply IsS76.set_3 | apply IsS76.set_4 | apply IsS76.far (hne := NB0_241.out) | apply IsS76.far (hne := NB0_267.out)) | exact HI0.out)) qd6 qd16) hk (fun _ h => h.2)) (fun _ h => h.1)); have n2_ := Aside0.mk (KeepBut.blk hk (g' := gb241) (o := .cells #[.int .i64 0, .int .u64 0, .int .u64 0, .int .u64 0, .int .u64 0, .slice none 0 0] 52 (0, 0)) qd1 NB241_0.out (by simp)); have n3_ := Aside0.mk (KeepBut.blk hk (g' := gb267) (o := .cells #[.int .i64 x268000_3, .int .u64 x268001_3, .int .u64 x268002_3, .int .u64 x268003_3, .int .u64 x268004_3, u268005] 52 (0, 0)) qd4 NB267_0.out (by simp)); have n4_ := Aside0.mk (KeepBut.trans qd0 hk (.inl rfl)); have n5_ := Aside0.mk (hb); have n6_ := Aside0.mk (hi); clear HO_3; clear HO_268005; clear BK241; clear BK267; clear HK; clear HB; clear HI0; have HO_3 := n0_; have HO_268005 := n1_; have BK241 := n2_; have BK267 := n3_; have HK := n4_; have HB := n5_; have HI0 := n6_; clear n0_ n1_ n2_ n3_ n4_ n5_ n6_; (try clear hb); (try clear hb2); (try clear hk); (try clear hi)) | ((with_reducible refine gate_dst (N := 48) rfl ?_); refine look_event (v := .int .i64 4) rfl qd14 ?_; intro w27 hb; have n0_ := Aside0.mk (Kd.R_below qd5 hb); have n1_ := Aside0.mk (Kd.R_below qd6 hb); have n2_ := Aside0.mk (blk_below (g := gb241) (o := .cells #[.int .i64 0, .int .u64 0, .int .u64 0, .int .u64 0, .int .u64 0, .slice none 0 0] 52 (0, 0)) qd1 hb); have n3_ := Aside0.mk (blk_below (g := gb267) (o := .cells #[.int .i64 x268000_3, .int .u64 x268001_3, .int .u64 x268002_3, .int .u64 x268003_3, .int .u64 x268004_3, u268005] 52 (0, 0)) qd4 hb); have n4_ := Aside0.mk (IsS76.below qd2 hb); have n5_ := Aside0.mk (KeepBut.trans qd0 (KeepBut.of_below hb g none) (.inl rfl)); have n6_ := Aside0.mk (below_step qd3 hb); clear HO_3; clear HO_268005; clear BK241; clear BK267; clear HI0; clear HK; clear HB; have HO_3 := n0_; have HO_268005 := n1_; have BK241 := n2_; have BK267 := n3_; have HI0 := n4_; have HK := n5_; have HB := n6_; clear n0_ n1_ n2_ n3_ n4_ n5_ n6_; clear hb; obtain ⟨HGz28, hgz28⟩ := HI0.out; have hcz28_0 := cellS76_0 HGz28; have hcz28_1 := cellS76_1 HGz28; have hcz28_2 := cellS76_2 HGz28; have hcz28_3 := cellS76_3 HGz28; have hcz28_4 := cellS76_4 HGz28; have hfz28_0 := blk_frozen HGz28 0; have hfz28_1 := blk_frozen HGz28 1; have hfz28_2 := blk_frozen HGz28 2; have hfz28_3 := blk_frozen HGz28 3; have hfz28_4 := blk_frozen HGz28 4; clear HGz28 hgz28; have hnb29 := NB267_241.out; have hnc29 := NB241_267.out; have hnb30 := NB267_0.out; have hnc30 := NB0_267.out; have hcz31_0 : w27.cell? ⟨gb267, 0, none⟩ = some (.int .i64 x268000_3) := (blk_cell BK267.out 0).trans rfl; have hcz31_1 : w27.cell? ⟨gb267, 1, none⟩ = some (.int .u64 x268001_3) := (blk_cell BK267.out 1).trans rfl; have hcz31_2 : w27.cell? ⟨gb267, 2, none⟩ = some (.int .u64 x268002_3) := (blk_cell BK267.out 2).trans rfl; have hcz31_3 : w27.cell? ⟨gb267, 3, none⟩ = some (.int .u64 x268003_3) := (blk_cell BK267.out 3).trans rfl; have hcz31_4 : w27.cell? ⟨gb267, 4, none⟩ = some (.int .u64 x268004_3) := (blk_cell BK267.out 4).trans rfl; have hcz31_5 : w27.cell? ⟨gb267, 5, none⟩ = some (u268005) := (blk_cell BK267.out 5).trans rfl; have hfz31_0 := blk_frozen BK267.out 0; have hfz31_1 := blk_frozen BK267.out 1; have hfz31_2 := blk_frozen BK267.out 2; have hfz31_3 := blk_frozen BK267.out 3; have hfz31_4 := blk_frozen BK267.out 4; have hfz31_5 := blk_frozen BK267.out 5; obtain ⟨Ao32, co32, eo32⟩ := Kd.R_slice HO_268005.out; subst eo32) | ((with_reducible refine gate_dst (N := 64) rfl ?_); refine Kd.R_lit k52 w.heap.size 52 ?hg (N := 64) ?hd (xs := ([(⟨x268000_3, (⟨x268001_3, x268002_3, x268003_3, x268004_3⟩ : S49), x268005_3⟩ : S52)] : List (S52))) (inner := [.int .i64 x268000_3, .int .u64 x268001_3, .int .u64 x268002_3, .int .u64 x268003_3, .int .u64 x268004_3, .slice Ao32 x268005_3.length co32]) (ok := (fun k_ => some k_ ≠ (u3 : Value).ownBlock ∧ k_ ≠ gb241 ∧ k_ ≠ gb267)) (okp := (fun k_ => some k_ ≠ (u3 : Value).ownBlock ∧ k_ ≠ gb241 ∧ k_ ≠ gb267)) ?hr ?hp (fun _ hk => hk) (⟨Kd.fresh' (Kd.R_lt qd8) _ (Nat.le_refl _), Kd.freshB (g := gb241) (o := .cells #[.int .i64 0, .int .u64 0, .int .u64 0, .int .u64 0, .int .u64 0, .slice none 0 0] 52 (0, 0)) qd9 _ (Nat.le_refl _), Kd.freshB (g := gb267) (o := .cells #[.int .i64 x268000_3, .int .u64 x268001_3, .int .u64 x268002_3, .int .u64 x268003_3, .int .u64 x268004_3, .slice Ao32 x268005_3.length co32] 52 (0, 0)) qd10 _ (Nat.le_refl _)⟩) (Below.refl _ _) ((keep_size (w := w) (g := g) (row := none) qd0)) (by simp) ?_; (case hd => rfl); (case hg => rfl); (case hr => first | (go_simp; done) | (go_simp; rfl)); (case hp => exact (Reps.c6 (show Kd.M k52 _ _ _ (⟨x268000_3, (⟨x268001_3, x268002_3, x268003_3, x268004_3⟩ : S49), x268005_3⟩ : S52) [.int .i64 x268000_3, .int .u64 x268001_3, .int .u64 x268002_3, .int .u64 x268003_3, .int .u64 x268004_3, .slice Ao32 x268005_3.length co32] from (k52_mkM _ _ _ (⟨x268000_3, (⟨x268001_3, x268002_3, x268003_3, x268004_3⟩ : S49), x268005_3⟩ : S52) (Kd.R_mono ((Kd.R_far (p := ⟨g, 1, none⟩) (IsS76.apart HI0.out HO_268005.out qd16) (fun _ hk => hk.2) (.int .i64 (wrap64 (t271 + 1))))) (fun k_ hk => ⟨hk.1.1, ⟨hk.1.2.1, hk.1.2.2⟩⟩)))) (Reps.none _ _))); intro v276 w33 ho34 hb0_ hg_ hnew0_; have hb := lr_below hg_; have hnew_ := lr_base hnew0_; clear hb0_ hg_ hnew0_; (first | rw [← Ny275.out] at ho34 | (simp only [Int.reduceToNat] at ho34; rw [← Ny275.out] at ho34)); have n0_ := Aside0.mk (Kd.R_elder' qd8 (hnew_) hb); have n1_ := Aside0.mk (ho34); have n2_ := Aside0.mk (blk_below (g := gb241) (o := .cells #[.int .i64 0, .int .u64 0, .int .u64 0, .int .u64 0, .int .u64 0, .slice none 0 0] 52 (0, 0)) qd9 hb); have n3_ := Aside0.mk (blk_below (g := gb267) (o := .cells #[.int .i64 x268000_3, .int .u64 x268001_3, .int .u64 x268002_3, .int .u64 x268003_3, .int .u64 x268004_3, .slice Ao32 x268005_3.length co32] 52 (0, 0)) qd10 hb); have n4_ := Aside0.mk (IsS76.below (show IsS76 w0 (w27.setCell ⟨g, 1, none⟩ (.int .i64 (wrap64 (t271 + 1)))) g t270 (wrap64 (t271 + 1)) t272 t273 t274 from by repeat (first | (with_reducible first | exact HI0.out | apply IsS76.alloc | apply IsS76.drewN | apply IsS76.drew | apply IsS76.set_0 | apply IsS76.set_1 | apply IsS76.set_2 | apply IsS76.set_3 | apply IsS76.set_4 | apply IsS76.far (hne := NB0_241.out) | apply IsS76.far (hne := NB0_267.out)) | exact HI0.out)) hb); have n5_ := Aside0.mk (KeepBut.trans qd0 (KeepBut.of_below hb g none) (.inl rfl)); have n6_ := Aside0.mk (below_step qd3 hb); clear HO_3; clear BK241; clear BK267; clear HI0; clear HK; clear HB; clear HO_268005; have HO_3 := n0_; have HO277 := n1_; have BK241 := n2_; have BK267 := n3_; have HI0 := n4_; have HK := n5_; have HB := n6_; clear n0_ n1_ n2_ n3_ n4_ n5_ n6_; clear hb ho34 hnew_; obtain ⟨Ao35, co35, eo35⟩ := Kd.R_slice HO277.out; subst eo35; have hcz36_0 : w33.cell? ⟨gb267, 0, none⟩ = some (.int .i64 x268000_3) := (blk_cell BK267.out 0).trans rfl; have hcz36_1 : w33.cell? ⟨gb267, 1, none⟩ = some (.int .u64 x268001_3) := (blk_cell BK267.out 1).trans rfl; have hcz36_2 : w33.cell? ⟨gb267, 2, none⟩ = some (.int .u64 x268002_3) := (blk_cell BK267.out 2).trans rfl; have hcz36_3 : w33.cell? ⟨gb267, 3, none⟩ = some (.int .u64 x268003_3) := (blk_cell BK267.out 3).trans rfl; have hcz36_4 : w33.cell? ⟨gb267, 4, none⟩ = some (.int .u64 x268004_3) := (blk_cell BK267.out 4).trans rfl; have hcz36_5 : w33.cell? ⟨gb267, 5, none⟩ = some (.slice Ao32 x268005_3.length co32) := (blk_cell BK267.out 5).trans rfl; have hfz36_0 := blk_frozen BK267.out 0; have hfz36_1 := blk_frozen BK267.out 1; have hfz36_2 := blk_frozen BK267.out 2; have hfz36_3 := blk_frozen BK267.out 3; have hfz36_4 := blk_frozen BK267.out 4; have hfz36_5 := blk_frozen BK267.out 5))
            go_roundg k3
            case measure => have := HK1.out; have := HJ4.out; have := HK3.out; omega
            case rel => exact ⟨(t270), (wrap64 (t271 + 1)), (t272), (t273), (t274), (4), (0), (0), (0), (0), (y275), (.slice Ao35 y275.length co35), H', ⟨by have := HK1.out; have := HJ4.out; have := HK3.out; omega⟩, ⟨by (with_reducible repeat (first | apply Kd.R_alloc | apply Kd.R_drewN | apply Kd.R_drew)); exact Kd.R_mono (Kd.R_far (p := ⟨gb267, 5, none⟩) (Kd.R_far (p := ⟨gb267, 4, none⟩) (Kd.R_far (p := ⟨gb267, 3, none⟩) (Kd.R_far (p := ⟨gb267, 2, none⟩) (Kd.R_far (p := ⟨gb267, 1, none⟩) (Kd.R_far (p := ⟨gb267, 0, none⟩) (Kd.R_mono HO_3.out (fun k_ hk => (⟨hk, hk.1.2.2⟩ : _ ∧ k_ ≠ gb267))) (fun _ hk => hk.2) (.int .i64 4)) (fun _ hk => hk.2) (.int .u64 0)) (fun _ hk => hk.2) (.int .u64 0)) (fun _ hk => hk.2) (.int .u64 0)) (fun _ hk => hk.2) (.int .u64 0)) (fun _ hk => hk.2) (.slice Ao35 y275.length co35)) (fun _ hk => ⟨hk.1.2, ⟨hk.1.1.2.1, hk.1.1.2.2⟩⟩)⟩, ⟨by (with_reducible repeat (first | apply Kd.R_alloc | apply Kd.R_drewN | apply Kd.R_drew)); exact Kd.R_mono (Kd.R_far (p := ⟨gb267, 5, none⟩) (Kd.R_far (p := ⟨gb267, 4, none⟩) (Kd.R_far (p := ⟨gb267, 3, none⟩) (Kd.R_far (p := ⟨gb267, 2, none⟩) (Kd.R_far (p := ⟨gb267, 1, none⟩) (Kd.R_far (p := ⟨gb267, 0, none⟩) (Kd.R_mono HO277.out (fun k_ hk => (⟨hk, hk.2.2⟩ : _ ∧ k_ ≠ gb267))) (fun _ hk => hk.2) (.int .i64 4)) (fun _ hk => hk.2) (.int .u64 0)) (fun _ hk => hk.2) (.int .u64 0)) (fun _ hk => hk.2) (.int .u64 0)) (fun _ hk => hk.2) (.int .u64 0)) (fun _ hk => hk.2) (.slice Ao35 y275.length co35)) (fun _ hk => ⟨hk.1.1, ⟨hk.1.2.1, hk.1.2.2⟩⟩)⟩, ⟨by (with_reducible repeat (first | refine blk_drewN ?_ _ | refine blk_drew ?_ | refine blk_alloc ?_ _)); refine blk_far ?_ NB241_267.out _; (with_reducible repeat (first | refine blk_drewN ?_ _ | refine blk_drew ?_ | refine blk_alloc ?_ _)); refine blk_far ?_ NB241_267.out _; (with_reducible repeat (first | refine blk_drewN ?_ _ | refine blk_drew ?_ | refine blk_alloc ?_ _)); refine blk_far ?_ NB241_267.out _; (with_reducible repeat (first | refine blk_drewN ?_ _ | refine blk_drew ?_ | refine blk_alloc ?_ _)); refine blk_far ?_ NB241_267.out _; (with_reducible repeat (first | refine blk_drewN ?_ _ | refine blk_drew ?_ | refine blk_alloc ?_ _)); refine blk_far ?_ NB241_267.out _; (with_reducible repeat (first | refine blk_drewN ?_ _ | refine blk_drew ?_ | refine blk_alloc ?_ _)); refine blk_far ?_ NB241_267.out _; (with_reducible repeat (first | refine blk_drewN ?_ _ | refine blk_drew ?_ | refine blk_alloc ?_ _)); exact BK241.out⟩, ⟨by (with_reducible repeat (first | refine blk_drewN ?_ _ | refine blk_drew ?_ | refine blk_alloc ?_ _)); refine blk_put (cs := #[.int .i64 4, .int .u64 0, .int .u64 0, .int .u64 0, .int .u64 0, .slice Ao32 x268005_3.length co32]) ?_ 5 _ rfl; (with_reducible repeat (first | refine blk_drewN ?_ _ | refine blk_drew ?_ | refine blk_alloc ?_ _)); refine blk_put (cs := #[.int .i64 4, .int .u64 0, .int .u64 0, .int .u64 0, .int .u64 x268004_3, .slice Ao32 x268005_3.length co32]) ?_ 4 _ rfl; (with_reducible repeat (first | refine blk_drewN ?_ _ | refine blk_drew ?_ | refine blk_alloc ?_ _)); refine blk_put (cs := #[.int .i64 4, .int .u64 0, .int .u64 0, .int .u64 x268003_3, .int .u64 x268004_3, .slice Ao32 x268005_3.length co32]) ?_ 3 _ rfl; (with_reducible repeat (first | refine blk_drewN ?_ _ | refine blk_drew ?_ | refine blk_alloc ?_ _)); refine blk_put (cs := #[.int .i64 4, .int .u64 0, .int .u64 x268002_3, .int .u64 x268003_3, .int .u64 x268004_3, .slice Ao32 x268005_3.length co32]) ?_ 2 _ rfl; (with_reducible repeat (first | refine blk_drewN ?_ _ | refine blk_drew ?_ | refine blk_alloc ?_ _)); refine blk_put (cs := #[.int .i64 4, .int .u64 x268001_3, .int .u64 x268002_3, .int .u64 x268003_3, .int .u64 x268004_3, .slice Ao32 x268005_3.length co32]) ?_ 1 _ rfl; (with_reducible repeat (first | refine blk_drewN ?_ _ | refine blk_drew ?_ | refine blk_alloc ?_ _)); refine blk_put (cs := #[.int .i64 x268000_3, .int .u64 x268001_3, .int .u64 x268002_3, .int .u64 x268003_3, .int .u64 x268004_3, .slice Ao32 x268005_3.length co32]) ?_ 0 _ rfl; (with_reducible repeat (first | refine blk_drewN ?_ _ | refine blk_drew ?_ | refine blk_alloc ?_ _)); exact BK267.out⟩, ⟨by repeat (first | (with_reducible first | exact HI0.out | apply IsS76.alloc | apply IsS76.drewN | apply IsS76.drew | apply IsS76.set_0 | apply IsS76.set_1 | apply IsS76.set_2 | apply IsS76.set_3 | apply IsS76.set_4 | apply IsS76.far (hne := NB0_241.out) | apply IsS76.far (hne := NB0_267.out)) | exact HI0.out)⟩, ⟨by repeat (first | (with_reducible first | exact HK.out | apply KeepBut.set_ | apply keep_drewN | apply keep_drew | apply keep_alloc | refine keep_far ?_ GW241.out _ | refine keep_far ?_ GW267.out _) | exact HK.out)⟩, ⟨by repeat (first | (with_reducible first | exact HB.out | apply below_alloc | apply pw_below_drewN | apply below_drew1 | refine below_set ?_ (IsS76.ge HI0.out) | refine below_set ?_ GE241.out | refine below_set ?_ GE267.out) | exact HB.out)⟩⟩
           ·replace c25 := Bool.eq_false_iff.mpr c25
            subst c25
            have H1 : (if x3_1.length < 2199023255552 then (regex_reader_cat.l0 k3 (x3_1 ++ [(⟨x268000_3, (⟨x268001_3, x268002_3, x268003_3, x268004_3⟩ : S49), x268005_3⟩ : S52)]) t270 t271 t272 t273 t274) else (none)) = some (r1, r2, r3, r4, r5, r6, r7, r8, r9, r10, r11) := by rw [if_neg (show ¬ (false = true) by decide)] at H; exact H
            clear H
            have H := H1
            clear H1
            by_cases c37 : x3_1.length < 2199023255552
            ·rw [if_pos c37] at H
             have LMc37 := Aside0.mk c37
             clear c37
             obtain ⟨y278, hy278⟩ : ∃ y_ : List (S52), y_ = (x3_1 ++ [(⟨x268000_3, (⟨x268001_3, x268002_3, x268003_3, x268004_3⟩ : S49), x268005_3⟩ : S52)]) := ⟨_, rfl⟩
             replace H : (regex_reader_cat.l0 k3 y278 t270 t271 t272 t273 t274) = some (r1, r2, r3, r4, r5, r6, r7, r8, r9, r10, r11) := by first | (rw [hy278]; with_reducible exact H) | (have H2_ := (Option.bind_some _ _).symm.trans H; rw [hy278]; with_reducible exact H2_) | (have H2_ := (Option.bind_some _ _).symm.trans H; with_reducible exact H2_) | with_reducible exact H | (rw [hy278]; exact H) | exact H
             have Ny278 := Aside0.mk hy278
             clear hy278
             have H' := Aside0.mk H
             clear H
             go_wp2_with (first | ((with_reducible refine gate_callee (f := 36) rfl ?_); refine goesL_ (some 42) rfl rfl Try.func36 (by kernel_rfl) rfl #[.pointer (some ⟨g, 0, none⟩)] rfl qd7 ?_; (with_reducible refine (regex_reader_next.calls g x1000_3 x1001_3 x1002_3 x1003_3 x1004_3 t268 false t270 t271 t272 t273 t274 w0 _ ?side1 ?side2 ?side3 A23.out).mono ?_); (case side1 => repeat (first | (with_reducible first | exact HI0.out | apply IsS76.alloc | apply IsS76.drewN | apply IsS76.drew | apply IsS76.set_0 | apply IsS76.set_1 | apply IsS76.set_2 | apply IsS76.set_3 | apply IsS76.set_4 | apply IsS76.far (hne := NB0_241.out) | apply IsS76.far (hne := NB0_267.out)) | exact HI0.out)); (case side2 => repeat (first | (with_reducible first | exact HB.out | apply below_alloc | apply pw_below_drewN | apply below_drew1 | refine below_set ?_ (IsS76.ge HI0.out) | refine below_set ?_ GE241.out | refine below_set ?_ GE267.out) | exact HB.out)); (case side3 => exact hT); rintro e w38 ⟨rfl, hi, hb, hk⟩; refine ⟨_, rfl, ?_⟩; have n0_ := Aside0.mk (Kd.R_mono (Kd.R_keep (IsS76.apart (show IsS76 w0 _ g x1000_3 x1001_3 x1002_3 x1003_3 x1004_3 from by repeat (first | (with_reducible first | exact HI0.out | apply IsS76.alloc | apply IsS76.drewN | apply IsS76.drew | apply IsS76.set_0 | apply IsS76.set_1 | apply IsS76.set_2 | apply IsS76.set_3 | apply IsS76.set_4 | apply IsS76.far (hne := NB0_241.out) | apply IsS76.far (hne := NB0_267.out)) | exact HI0.out)) qd5 qd16) hk (fun _ h => h.2)) (fun _ h => h.1)); have n1_ := Aside0.mk (Kd.R_mono (Kd.R_keep (IsS76.apart (show IsS76 w0 _ g x1000_3 x1001_3 x1002_3 x1003_3 x1004_3 from by repeat (first | (with_reducible first | exact HI0.out | apply IsS76.alloc | apply IsS76.drewN | apply IsS76.drew | apply IsS76.set_0 | apply IsS76.set_1 | apply IsS76.set_2 | apply IsS76.set_3 | apply IsS76.set_4 | apply IsS76.far (hne := NB0_241.out) | apply IsS76.far (hne := NB0_267.out)) | exact HI0.out)) qd6 qd16) hk (fun _ h => h.2)) (fun _ h => h.1)); have n2_ := Aside0.mk (KeepBut.blk hk (g' := gb241) (o := .cells #[.int .i64 0, .int .u64 0, .int .u64 0, .int .u64 0, .int .u64 0, .slice none 0 0] 52 (0, 0)) qd1 NB241_0.out (by simp)); have n3_ := Aside0.mk (KeepBut.blk hk (g' := gb267) (o := .cells #[.int .i64 x268000_3, .int .u64 x268001_3, .int .u64 x268002_3, .int .u64 x268003_3, .int .u64 x268004_3, u268005] 52 (0, 0)) qd4 NB267_0.out (by simp)); have n4_ := Aside0.mk (KeepBut.trans qd0 hk (.inl rfl)); have n5_ := Aside0.mk (hb); have n6_ := Aside0.mk (hi); clear HO_3; clear HO_268005; clear BK241; clear BK267; clear HK; clear HB; clear HI0; have HO_3 := n0_; have HO_268005 := n1_; have BK241 := n2_; have BK267 := n3_; have HK := n4_; have HB := n5_; have HI0 := n6_; clear n0_ n1_ n2_ n3_ n4_ n5_ n6_; (try clear hb); (try clear hb2); (try clear hk); (try clear hi)) | ((with_reducible refine gate_dst (N := 48) rfl ?_); refine look_event (v := .int .i64 4) rfl qd14 ?_; intro w39 hb; have n0_ := Aside0.mk (Kd.R_below qd5 hb); have n1_ := Aside0.mk (Kd.R_below qd6 hb); have n2_ := Aside0.mk (blk_below (g := gb241) (o := .cells #[.int .i64 0, .int .u64 0, .int .u64 0, .int .u64 0, .int .u64 0, .slice none 0 0] 52 (0, 0)) qd1 hb); have n3_ := Aside0.mk (blk_below (g := gb267) (o := .cells #[.int .i64 x268000_3, .int .u64 x268001_3, .int .u64 x268002_3, .int .u64 x268003_3, .int .u64 x268004_3, u268005] 52 (0, 0)) qd4 hb); have n4_ := Aside0.mk (IsS76.below qd2 hb); have n5_ := Aside0.mk (KeepBut.trans qd0 (KeepBut.of_below hb g none) (.inl rfl)); have n6_ := Aside0.mk (below_step qd3 hb); clear HO_3; clear HO_268005; clear BK241; clear BK267; clear HI0; clear HK; clear HB; have HO_3 := n0_; have HO_268005 := n1_; have BK241 := n2_; have BK267 := n3_; have HI0 := n4_; have HK := n5_; have HB := n6_; clear n0_ n1_ n2_ n3_ n4_ n5_ n6_; clear hb; have hnb40 := NB267_241.out; have hnc40 := NB241_267.out; have hnb41 := NB267_0.out; have hnc41 := NB0_267.out; have hcz42_0 : w39.cell? ⟨gb267, 0, none⟩ = some (.int .i64 x268000_3) := (blk_cell BK267.out 0).trans rfl; have hcz42_1 : w39.cell? ⟨gb267, 1, none⟩ = some (.int .u64 x268001_3) := (blk_cell BK267.out 1).trans rfl; have hcz42_2 : w39.cell? ⟨gb267, 2, none⟩ = some (.int .u64 x268002_3) := (blk_cell BK267.out 2).trans rfl; have hcz42_3 : w39.cell? ⟨gb267, 3, none⟩ = some (.int .u64 x268003_3) := (blk_cell BK267.out 3).trans rfl; have hcz42_4 : w39.cell? ⟨gb267, 4, none⟩ = some (.int .u64 x268004_3) := (blk_cell BK267.out 4).trans rfl; have hcz42_5 : w39.cell? ⟨gb267, 5, none⟩ = some (u268005) := (blk_cell BK267.out 5).trans rfl; have hfz42_0 := blk_frozen BK267.out 0; have hfz42_1 := blk_frozen BK267.out 1; have hfz42_2 := blk_frozen BK267.out 2; have hfz42_3 := blk_frozen BK267.out 3; have hfz42_4 := blk_frozen BK267.out 4; have hfz42_5 := blk_frozen BK267.out 5; obtain ⟨Ao44, co44, eo44⟩ := Kd.R_slice HO_268005.out; subst eo44) | ((with_reducible refine gate_builtin (b := .append) (xs := #[.tmp 66, .tmp 68]) rfl ?_); at_builtin; refine Kd.R_append k52 w.heap.size rfl (.tmp 66) (.tmp 68) 50 52 (.agg #[(.int .i64 0), (.int .u64 0), (.int .u64 0), (.int .u64 0), (.int .u64 0), (.slice none 0 0)]) 64 rfl Try.underlying50 info52 rfl qd16 (by omega) u3 x3_1 (⟨x268000_3, (⟨x268001_3, x268002_3, x268003_3, x268004_3⟩ : S49), x268005_3⟩ : S52) [.int .i64 x268000_3, .int .u64 x268001_3, .int .u64 x268002_3, .int .u64 x268003_3, .int .u64 x268004_3, .slice Ao44 x268005_3.length co44] (fun k_ => k_ ≠ gb241 ∧ k_ ≠ gb267) (fun k_ => ((fun k_ => k_ ≠ gb241 ∧ k_ ≠ gb267)) k_ ∧ some k_ ≠ (u3 : Value).ownBlock) rfl rfl ?aP (fun _ hk => hk) ?aF ?aO (Below.refl _ _) ?aS ?aL ?_; (case aP => exact k52_mkM _ _ _ (⟨x268000_3, (⟨x268001_3, x268002_3, x268003_3, x268004_3⟩ : S49), x268005_3⟩ : S52) (Kd.R_mono (HO_268005.out) (fun k_ hk => ⟨⟨hk.2.1, hk.2.2⟩, hk.1⟩))); (case aF => exact (fun k_ hk => ⟨Kd.freshB (g := gb241) (o := .cells #[.int .i64 0, .int .u64 0, .int .u64 0, .int .u64 0, .int .u64 0, .slice none 0 0] 52 (0, 0)) qd1 k_ hk, Kd.freshB (g := gb267) (o := .cells #[.int .i64 x268000_3, .int .u64 x268001_3, .int .u64 x268002_3, .int .u64 x268003_3, .int .u64 x268004_3, .slice Ao44 x268005_3.length co44] 52 (0, 0)) qd4 k_ hk⟩)); (case aO => exact qd12); (case aS => exact (keep_size (w := w) (g := g) (row := none) qd0)); (case aL => have := LMc37.out; omega); intro v279 w43 ho hb hg hat; rw [← Ny278.out] at ho; have n0_ := Aside0.mk (blk_grown (g := gb241) (o := .cells #[.int .i64 0, .int .u64 0, .int .u64 0, .int .u64 0, .int .u64 0, .slice none 0 0] 52 (0, 0)) qd1 hg (Kd.R_away HO_3.out (fun _ hk => hk.2.1))); have n1_ := Aside0.mk (blk_grown (g := gb267) (o := .cells #[.int .i64 x268000_3, .int .u64 x268001_3, .int .u64 x268002_3, .int .u64 x268003_3, .int .u64 x268004_3, .slice Ao44 x268005_3.length co44] 52 (0, 0)) qd4 hg (Kd.R_away HO_3.out (fun _ hk => hk.2.2))); have n2_ := Aside0.mk (IsS76.grown qd2 hg (IsS76.own_ne HI0.out HO_3.out qd16)); have n3_ := Aside0.mk (below_weaken qd3 HL.out hb); have n4_ := Aside0.mk (KeepBut.trans qd0 (KeepBut.of_grown hg g) (Kd.R_base2 HO_3.out)); have n5_ := Aside0.mk (ho); clear BK241; clear BK267; clear HI0; clear HB; clear HK; clear HO_3; clear HO_268005; have BK241 := n0_; have BK267 := n1_; have HI0 := n2_; have HB := n3_; have HK := n4_; have HO280 := n5_; clear n0_ n1_ n2_ n3_ n4_ n5_; clear ho hb hg hat))
             go_roundg k3
             case measure => have := HK1.out; have := HJ4.out; have := HK3.out; omega
             case rel => exact ⟨(y278), (t270), (t271), (t272), (t273), (t274), H', ⟨by have := HK1.out; have := HJ4.out; have := HK3.out; omega⟩, ⟨by (with_reducible repeat (first | apply Kd.R_alloc | apply Kd.R_drewN | apply Kd.R_drew)); exact Kd.R_mono HO280.out (fun _ hk => hk.1)⟩, ⟨by (with_reducible repeat (first | refine blk_drewN ?_ _ | refine blk_drew ?_ | refine blk_alloc ?_ _)); exact BK241.out⟩, ⟨by repeat (first | (with_reducible first | exact HI0.out | apply IsS76.alloc | apply IsS76.drewN | apply IsS76.drew | apply IsS76.set_0 | apply IsS76.set_1 | apply IsS76.set_2 | apply IsS76.set_3 | apply IsS76.set_4 | apply IsS76.far (hne := NB0_241.out) | apply IsS76.far (hne := NB0_267.out)) | exact HI0.out)⟩, ⟨by repeat (first | (with_reducible first | exact HK.out | apply KeepBut.set_ | apply keep_drewN | apply keep_drew | apply keep_alloc | refine keep_far ?_ GW241.out _ | refine keep_far ?_ GW267.out _) | exact HK.out)⟩, ⟨by repeat (first | (with_reducible first | exact HB.out | apply below_alloc | apply pw_below_drewN | apply below_drew1 | refine below_set ?_ (IsS76.ge HI0.out) | refine below_set ?_ GE241.out | refine below_set ?_ GE267.out) | exact HB.out)⟩⟩
            ·rw [if_neg c37] at H
             exact absurd H (by simp)
          ·rw [if_neg c24] at H
           have c24b0 : (t268 == 42) = false := beq_eq_false_iff_ne.mpr c24
           have c24b1 : (t268 != 42) = true := bne_iff_ne.mpr c24
           by_cases c45 : t268 = 43
           ·rw [if_pos c45] at H
            have c45b0 : (t268 == 43) = true := beq_iff_eq.mpr c45
            have c45b1 : (t268 != 43) = false := bne_eq_false_iff_eq.mpr c45
            clear c45
            by_cases c46 : t269 = true
            ·subst c46
             have H1 : (regex_reader_cat.l1 k3 x3_1 t270 (wrap64 (t271 + 1)) t272 t273 t274 5 0 0 0 0 (([(⟨x268000_3, (⟨x268001_3, x268002_3, x268003_3, x268004_3⟩ : S49), x268005_3⟩ : S52)] : List (S52)))) = some (r1, r2, r3, r4, r5, r6, r7, r8, r9, r10, r11) := by rw [if_pos rfl] at H; exact H
             clear H
             have H := H1
             clear H1
             obtain ⟨y281, hy281⟩ : ∃ y_ : List (S52), y_ = (([(⟨x268000_3, (⟨x268001_3, x268002_3, x268003_3, x268004_3⟩ : S49), x268005_3⟩ : S52)] : List (S52))) := ⟨_, rfl⟩
             replace H : (regex_reader_cat.l1 k3 x3_1 t270 (wrap64 (t271 + 1)) t272 t273 t274 5 0 0 0 0 y281) = some (r1, r2, r3, r4, r5, r6, r7, r8, r9, r10, r11) := by first | (rw [hy281]; with_reducible exact H) | (have H2_ := (Option.bind_some _ _).symm.trans H; rw [hy281]; with_reducible exact H2_) | (have H2_ := (Option.bind_some _ _).symm.trans H; with_reducible exact H2_) | with_reducible exact H | (rw [hy281]; exact H) | exact H
             have Ny281 := Aside0.mk hy281
             clear hy281
             have H' := Aside0.mk H
             clear H
             go_wp2_with (first | ((with_reducible refine gate_callee (f := 36) rfl ?_); refine goesL_ (some 42) rfl rfl Try.func36 (by kernel_rfl) rfl #[.pointer (some ⟨g, 0, none⟩)] rfl qd7 ?_; (with_reducible refine (regex_reader_next.calls g x1000_3 x1001_3 x1002_3 x1003_3 x1004_3 t268 true t270 t271 t272 t273 t274 w0 _ ?side1 ?side2 ?side3 A23.out).mono ?_); (case side1 => repeat (first | (with_reducible first | exact HI0.out | apply IsS76.alloc | apply IsS76.drewN | apply IsS76.drew | apply IsS76.set_0 | apply IsS76.set_1 | apply IsS76.set_2 | apply IsS76.set_3 | apply IsS76.set_4 | apply IsS76.far (hne := NB0_241.out) | apply IsS76.far (hne := NB0_267.out)) | exact HI0.out)); (case side2 => repeat (first | (with_reducible first | exact HB.out | apply below_alloc | apply pw_below_drewN | apply below_drew1 | refine below_set ?_ (IsS76.ge HI0.out) | refine below_set ?_ GE241.out | refine below_set ?_ GE267.out) | exact HB.out)); (case side3 => exact hT); rintro e w47 ⟨rfl, hi, hb, hk⟩; refine ⟨_, rfl, ?_⟩; have n0_ := Aside0.mk (Kd.R_mono (Kd.R_keep (IsS76.apart (show IsS76 w0 _ g x1000_3 x1001_3 x1002_3 x1003_3 x1004_3 from by repeat (first | (with_reducible first | exact HI0.out | apply IsS76.alloc | apply IsS76.drewN | apply IsS76.drew | apply IsS76.set_0 | apply IsS76.set_1 | apply IsS76.set_2 | apply IsS76.set_3 | apply IsS76.set_4 | apply IsS76.far (hne := NB0_241.out) | apply IsS76.far (hne := NB0_267.out)) | exact HI0.out)) qd5 qd16) hk (fun _ h => h.2)) (fun _ h => h.1)); have n1_ := Aside0.mk (Kd.R_mono (Kd.R_keep (IsS76.apart (show IsS76 w0 _ g x1000_3 x1001_3 x1002_3 x1003_3 x1004_3 from by repeat (first | (with_reducible first | exact HI0.out | apply IsS76.alloc | apply IsS76.drewN | apply IsS76.drew | apply IsS76.set_0 | apply IsS76.set_1 | apply IsS76.set_2 | apply IsS76.set_3 | apply IsS76.set_4 | apply IsS76.far (hne := NB0_241.out) | apply IsS76.far (hne := NB0_267.out)) | exact HI0.out)) qd6 qd16) hk (fun _ h => h.2)) (fun _ h => h.1)); have n2_ := Aside0.mk (KeepBut.blk hk (g' := gb241) (o := .cells #[.int .i64 0, .int .u64 0, .int .u64 0, .int .u64 0, .int .u64 0, .slice none 0 0] 52 (0, 0)) qd1 NB241_0.out (by simp)); have n3_ := Aside0.mk (KeepBut.blk hk (g' := gb267) (o := .cells #[.int .i64 x268000_3, .int .u64 x268001_3, .int .u64 x268002_3, .int .u64 x268003_3, .int .u64 x268004_3, u268005] 52 (0, 0)) qd4 NB267_0.out (by simp)); have n4_ := Aside0.mk (KeepBut.trans qd0 hk (.inl rfl)); have n5_ := Aside0.mk (hb); have n6_ := Aside0.mk (hi); clear HO_3; clear HO_268005; clear BK241; clear BK267; clear HK; clear HB; clear HI0; have HO_3 := n0_; have HO_268005 := n1_; have BK241 := n2_; have BK267 := n3_; have HK := n4_; have HB := n5_; have HI0 := n6_; clear n0_ n1_ n2_ n3_ n4_ n5_ n6_; (try clear hb); (try clear hb2); (try clear hk); (try clear hi)) | ((with_reducible refine gate_dst (N := 48) rfl ?_); refine look_event (v := .int .i64 5) rfl qd14 ?_; intro w48 hb; have n0_ := Aside0.mk (Kd.R_below qd5 hb); have n1_ := Aside0.mk (Kd.R_below qd6 hb); have n2_ := Aside0.mk (blk_below (g := gb241) (o := .cells #[.int .i64 0, .int .u64 0, .int .u64 0, .int .u64 0, .int .u64 0, .slice none 0 0] 52 (0, 0)) qd1 hb); have n3_ := Aside0.mk (blk_below (g := gb267) (o := .cells #[.int .i64 x268000_3, .int .u64 x268001_3, .int .u64 x268002_3, .int .u64 x268003_3, .int .u64 x268004_3, u268005] 52 (0, 0)) qd4 hb); have n4_ := Aside0.mk (IsS76.below qd2 hb); have n5_ := Aside0.mk (KeepBut.trans qd0 (KeepBut.of_below hb g none) (.inl rfl)); have n6_ := Aside0.mk (below_step qd3 hb); clear HO_3; clear HO_268005; clear BK241; clear BK267; clear HI0; clear HK; clear HB; have HO_3 := n0_; have HO_268005 := n1_; have BK241 := n2_; have BK267 := n3_; have HI0 := n4_; have HK := n5_; have HB := n6_; clear n0_ n1_ n2_ n3_ n4_ n5_ n6_; clear hb; obtain ⟨HGz49, hgz49⟩ := HI0.out; have hcz49_0 := cellS76_0 HGz49; have hcz49_1 := cellS76_1 HGz49; have hcz49_2 := cellS76_2 HGz49; have hcz49_3 := cellS76_3 HGz49; have hcz49_4 := cellS76_4 HGz49; have hfz49_0 := blk_frozen HGz49 0; have hfz49_1 := blk_frozen HGz49 1; have hfz49_2 := blk_frozen HGz49 2; have hfz49_3 := blk_frozen HGz49 3; have hfz49_4 := blk_frozen HGz49 4; clear HGz49 hgz49; have hnb50 := NB267_241.out; have hnc50 := NB241_267.out; have hnb51 := NB267_0.out; have hnc51 := NB0_267.out; have hcz52_0 : w48.cell? ⟨gb267, 0, none⟩ = some (.int .i64 x268000_3) := (blk_cell BK267.out 0).trans rfl; have hcz52_1 : w48.cell? ⟨gb267, 1, none⟩ = some (.int .u64 x268001_3) := (blk_cell BK267.out 1).trans rfl; have hcz52_2 : w48.cell? ⟨gb267, 2, none⟩ = some (.int .u64 x268002_3) := (blk_cell BK267.out 2).trans rfl; have hcz52_3 : w48.cell? ⟨gb267, 3, none⟩ = some (.int .u64 x268003_3) := (blk_cell BK267.out 3).trans rfl; have hcz52_4 : w48.cell? ⟨gb267, 4, none⟩ = some (.int .u64 x268004_3) := (blk_cell BK267.out 4).trans rfl; have hcz52_5 : w48.cell? ⟨gb267, 5, none⟩ = some (u268005) := (blk_cell BK267.out 5).trans rfl; have hfz52_0 := blk_frozen BK267.out 0; have hfz52_1 := blk_frozen BK267.out 1; have hfz52_2 := blk_frozen BK267.out 2; have hfz52_3 := blk_frozen BK267.out 3; have hfz52_4 := blk_frozen BK267.out 4; have hfz52_5 := blk_frozen BK267.out 5; obtain ⟨Ao53, co53, eo53⟩ := Kd.R_slice HO_268005.out; subst eo53) | ((with_reducible refine gate_dst (N := 64) rfl ?_); refine Kd.R_lit k52 w.heap.size 52 ?hg (N := 64) ?hd (xs := ([(⟨x268000_3, (⟨x268001_3, x268002_3, x268003_3, x268004_3⟩ : S49), x268005_3⟩ : S52)] : List (S52))) (inner := [.int .i64 x268000_3, .int .u64 x268001_3, .int .u64 x268002_3, .int .u64 x268003_3, .int .u64 x268004_3, .slice Ao53 x268005_3.length co53]) (ok := (fun k_ => some k_ ≠ (u3 : Value).ownBlock ∧ k_ ≠ gb241 ∧ k_ ≠ gb267)) (okp := (fun k_ => some k_ ≠ (u3 : Value).ownBlock ∧ k_ ≠ gb241 ∧ k_ ≠ gb267)) ?hr ?hp (fun _ hk => hk) (⟨Kd.fresh' (Kd.R_lt qd8) _ (Nat.le_refl _), Kd.freshB (g := gb241) (o := .cells #[.int .i64 0, .int .u64 0, .int .u64 0, .int .u64 0, .int .u64 0, .slice none 0 0] 52 (0, 0)) qd9 _ (Nat.le_refl _), Kd.freshB (g := gb267) (o := .cells #[.int .i64 x268000_3, .int .u64 x268001_3, .int .u64 x268002_3, .int .u64 x268003_3, .int .u64 x268004_3, .slice Ao53 x268005_3.length co53] 52 (0, 0)) qd10 _ (Nat.le_refl _)⟩) (Below.refl _ _) ((keep_size (w := w) (g := g) (row := none) qd0)) (by simp) ?_; (case hd => rfl); (case hg => rfl); (case hr => first | (go_simp; done) | (go_simp; rfl)); (case hp => exact (Reps.c6 (show Kd.M k52 _ _ _ (⟨x268000_3, (⟨x268001_3, x268002_3, x268003_3, x268004_3⟩ : S49), x268005_3⟩ : S52) [.int .i64 x268000_3, .int .u64 x268001_3, .int .u64 x268002_3, .int .u64 x268003_3, .int .u64 x268004_3, .slice Ao53 x268005_3.length co53] from (k52_mkM _ _ _ (⟨x268000_3, (⟨x268001_3, x268002_3, x268003_3, x268004_3⟩ : S49), x268005_3⟩ : S52) (Kd.R_mono ((Kd.R_far (p := ⟨g, 1, none⟩) (IsS76.apart HI0.out HO_268005.out qd16) (fun _ hk => hk.2) (.int .i64 (wrap64 (t271 + 1))))) (fun k_ hk => ⟨hk.1.1, ⟨hk.1.2.1, hk.1.2.2⟩⟩)))) (Reps.none _ _))); intro v282 w54 ho55 hb0_ hg_ hnew0_; have hb := lr_below hg_; have hnew_ := lr_base hnew0_; clear hb0_ hg_ hnew0_; (first | rw [← Ny281.out] at ho55 | (simp only [Int.reduceToNat] at ho55; rw [← Ny281.out] at ho55)); have n0_ := Aside0.mk (Kd.R_elder' qd8 (hnew_) hb); have n1_ := Aside0.mk (ho55); have n2_ := Aside0.mk (blk_below (g := gb241) (o := .cells #[.int .i64 0, .int .u64 0, .int .u64 0, .int .u64 0, .int .u64 0, .slice none 0 0] 52 (0, 0)) qd9 hb); have n3_ := Aside0.mk (blk_below (g := gb267) (o := .cells #[.int .i64 x268000_3, .int .u64 x268001_3, .int .u64 x268002_3, .int .u64 x268003_3, .int .u64 x268004_3, .slice Ao53 x268005_3.length co53] 52 (0, 0)) qd10 hb); have n4_ := Aside0.mk (IsS76.below (show IsS76 w0 (w48.setCell ⟨g, 1, none⟩ (.int .i64 (wrap64 (t271 + 1)))) g t270 (wrap64 (t271 + 1)) t272 t273 t274 from by repeat (first | (with_reducible first | exact HI0.out | apply IsS76.alloc | apply IsS76.drewN | apply IsS76.drew | apply IsS76.set_0 | apply IsS76.set_1 | apply IsS76.set_2 | apply IsS76.set_3 | apply IsS76.set_4 | apply IsS76.far (hne := NB0_241.out) | apply IsS76.far (hne := NB0_267.out)) | exact HI0.out)) hb); have n5_ := Aside0.mk (KeepBut.trans qd0 (KeepBut.of_below hb g none) (.inl rfl)); have n6_ := Aside0.mk (below_step qd3 hb); clear HO_3; clear BK241; clear BK267; clear HI0; clear HK; clear HB; clear HO_268005; have HO_3 := n0_; have HO283 := n1_; have BK241 := n2_; have BK267 := n3_; have HI0 := n4_; have HK := n5_; have HB := n6_; clear n0_ n1_ n2_ n3_ n4_ n5_ n6_; clear hb ho55 hnew_; obtain ⟨Ao56, co56, eo56⟩ := Kd.R_slice HO283.out; subst eo56; have hcz57_0 : w54.cell? ⟨gb267, 0, none⟩ = some (.int .i64 x268000_3) := (blk_cell BK267.out 0).trans rfl; have hcz57_1 : w54.cell? ⟨gb267, 1, none⟩ = some (.int .u64 x268001_3) := (blk_cell BK267.out 1).trans rfl; have hcz57_2 : w54.cell? ⟨gb267, 2, none⟩ = some (.int .u64 x268002_3) := (blk_cell BK267.out 2).trans rfl; have hcz57_3 : w54.cell? ⟨gb267, 3, none⟩ = some (.int .u64 x268003_3) := (blk_cell BK267.out 3).trans rfl; have hcz57_4 : w54.cell? ⟨gb267, 4, none⟩ = some (.int .u64 x268004_3) := (blk_cell BK267.out 4).trans rfl; have hcz57_5 : w54.cell? ⟨gb267, 5, none⟩ = some (.slice Ao53 x268005_3.length co53) := (blk_cell BK267.out 5).trans rfl; have hfz57_0 := blk_frozen BK267.out 0; have hfz57_1 := blk_frozen BK267.out 1; have hfz57_2 := blk_frozen BK267.out 2; have hfz57_3 := blk_frozen BK267.out 3; have hfz57_4 := blk_frozen BK267.out 4; have hfz57_5 := blk_frozen BK267.out 5))
             go_roundg k3
             case measure => have := HK1.out; have := HJ4.out; have := HK3.out; omega
             case rel => exact ⟨(t270), (wrap64 (t271 + 1)), (t272), (t273), (t274), (5), (0), (0), (0), (0), (y281), (.slice Ao56 y281.length co56), H', ⟨by have := HK1.out; have := HJ4.out; have := HK3.out; omega⟩, ⟨by (with_reducible repeat (first | apply Kd.R_alloc | apply Kd.R_drewN | apply Kd.R_drew)); exact Kd.R_mono (Kd.R_far (p := ⟨gb267, 5, none⟩) (Kd.R_far (p := ⟨gb267, 4, none⟩) (Kd.R_far (p := ⟨gb267, 3, none⟩) (Kd.R_far (p := ⟨gb267, 2, none⟩) (Kd.R_far (p := ⟨gb267, 1, none⟩) (Kd.R_far (p := ⟨gb267, 0, none⟩) (Kd.R_mono HO_3.out (fun k_ hk => (⟨hk, hk.1.2.2⟩ : _ ∧ k_ ≠ gb267))) (fun _ hk => hk.2) (.int .i64 5)) (fun _ hk => hk.2) (.int .u64 0)) (fun _ hk => hk.2) (.int .u64 0)) (fun _ hk => hk.2) (.int .u64 0)) (fun _ hk => hk.2) (.int .u64 0)) (fun _ hk => hk.2) (.slice Ao56 y281.length co56)) (fun _ hk => ⟨hk.1.2, ⟨hk.1.1.2.1, hk.1.1.2.2⟩⟩)⟩, ⟨by (with_reducible repeat (first | apply Kd.R_alloc | apply Kd.R_drewN | apply Kd.R_drew)); exact Kd.R_mono (Kd.R_far (p := ⟨gb267, 5, none⟩) (Kd.R_far (p := ⟨gb267, 4, none⟩) (Kd.R_far (p := ⟨gb267, 3, none⟩) (Kd.R_far (p := ⟨gb267, 2, none⟩) (Kd.R_far (p := ⟨gb267, 1, none⟩) (Kd.R_far (p := ⟨gb267, 0, none⟩) (Kd.R_mono HO283.out (fun k_ hk => (⟨hk, hk.2.2⟩ : _ ∧ k_ ≠ gb267))) (fun _ hk => hk.2) (.int .i64 5)) (fun _ hk => hk.2) (.int .u64 0)) (fun _ hk => hk.2) (.int .u64 0)) (fun _ hk => hk.2) (.int .u64 0)) (fun _ hk => hk.2) (.int .u64 0)) (fun _ hk => hk.2) (.slice Ao56 y281.length co56)) (fun _ hk => ⟨hk.1.1, ⟨hk.1.2.1, hk.1.2.2⟩⟩)⟩, ⟨by (with_reducible repeat (first | refine blk_drewN ?_ _ | refine blk_drew ?_ | refine blk_alloc ?_ _)); refine blk_far ?_ NB241_267.out _; (with_reducible repeat (first | refine blk_drewN ?_ _ | refine blk_drew ?_ | refine blk_alloc ?_ _)); refine blk_far ?_ NB241_267.out _; (with_reducible repeat (first | refine blk_drewN ?_ _ | refine blk_drew ?_ | refine blk_alloc ?_ _)); refine blk_far ?_ NB241_267.out _; (with_reducible repeat (first | refine blk_drewN ?_ _ | refine blk_drew ?_ | refine blk_alloc ?_ _)); refine blk_far ?_ NB241_267.out _; (with_reducible repeat (first | refine blk_drewN ?_ _ | refine blk_drew ?_ | refine blk_alloc ?_ _)); refine blk_far ?_ NB241_267.out _; (with_reducible repeat (first | refine blk_drewN ?_ _ | refine blk_drew ?_ | refine blk_alloc ?_ _)); refine blk_far ?_ NB241_267.out _; (with_reducible repeat (first | refine blk_drewN ?_ _ | refine blk_drew ?_ | refine blk_alloc ?_ _)); exact BK241.out⟩, ⟨by (with_reducible repeat (first | refine blk_drewN ?_ _ | refine blk_drew ?_ | refine blk_alloc ?_ _)); refine blk_put (cs := #[.int .i64 5, .int .u64 0, .int .u64 0, .int .u64 0, .int .u64 0, .slice Ao53 x268005_3.length co53]) ?_ 5 _ rfl; (with_reducible repeat (first | refine blk_drewN ?_ _ | refine blk_drew ?_ | refine blk_alloc ?_ _)); refine blk_put (cs := #[.int .i64 5, .int .u64 0, .int .u64 0, .int .u64 0, .int .u64 x268004_3, .slice Ao53 x268005_3.length co53]) ?_ 4 _ rfl; (with_reducible repeat (first | refine blk_drewN ?_ _ | refine blk_drew ?_ | refine blk_alloc ?_ _)); refine blk_put (cs := #[.int .i64 5, .int .u64 0, .int .u64 0, .int .u64 x268003_3, .int .u64 x268004_3, .slice Ao53 x268005_3.length co53]) ?_ 3 _ rfl; (with_reducible repeat (first | refine blk_drewN ?_ _ | refine blk_drew ?_ | refine blk_alloc ?_ _)); refine blk_put (cs := #[.int .i64 5, .int .u64 0, .int .u64 x268002_3, .int .u64 x268003_3, .int .u64 x268004_3, .slice Ao53 x268005_3.length co53]) ?_ 2 _ rfl; (with_reducible repeat (first | refine blk_drewN ?_ _ | refine blk_drew ?_ | refine blk_alloc ?_ _)); refine blk_put (cs := #[.int .i64 5, .int .u64 x268001_3, .int .u64 x268002_3, .int .u64 x268003_3, .int .u64 x268004_3, .slice Ao53 x268005_3.length co53]) ?_ 1 _ rfl; (with_reducible repeat (first | refine blk_drewN ?_ _ | refine blk_drew ?_ | refine blk_alloc ?_ _)); refine blk_put (cs := #[.int .i64 x268000_3, .int .u64 x268001_3, .int .u64 x268002_3, .int .u64 x268003_3, .int .u64 x268004_3, .slice Ao53 x268005_3.length co53]) ?_ 0 _ rfl; (with_reducible repeat (first | refine blk_drewN ?_ _ | refine blk_drew ?_ | refine blk_alloc ?_ _)); exact BK267.out⟩, ⟨by repeat (first | (with_reducible first | exact HI0.out | apply IsS76.alloc | apply IsS76.drewN | apply IsS76.drew | apply IsS76.set_0 | apply IsS76.set_1 | apply IsS76.set_2 | apply IsS76.set_3 | apply IsS76.set_4 | apply IsS76.far (hne := NB0_241.out) | apply IsS76.far (hne := NB0_267.out)) | exact HI0.out)⟩, ⟨by repeat (first | (with_reducible first | exact HK.out | apply KeepBut.set_ | apply keep_drewN | apply keep_drew | apply keep_alloc | refine keep_far ?_ GW241.out _ | refine keep_far ?_ GW267.out _) | exact HK.out)⟩, ⟨by repeat (first | (with_reducible first | exact HB.out | apply below_alloc | apply pw_below_drewN | apply below_drew1 | refine below_set ?_ (IsS76.ge HI0.out) | refine below_set ?_ GE241.out | refine below_set ?_ GE267.out) | exact HB.out)⟩⟩
            ·replace c46 := Bool.eq_false_iff.mpr c46
             subst c46
             have H1 : (if x3_1.length < 2199023255552 then (regex_reader_cat.l0 k3 (x3_1 ++ [(⟨x268000_3, (⟨x268001_3, x268002_3, x268003_3, x268004_3⟩ : S49), x268005_3⟩ : S52)]) t270 t271 t272 t273 t274) else (none)) = some (r1, r2, r3, r4, r5, r6, r7, r8, r9, r10, r11) := by rw [if_neg (show ¬ (false = true) by decide)] at H; exact H
             clear H
             have H := H1
             clear H1
             by_cases c58 : x3_1.length < 2199023255552
             ·rw [if_pos c58] at H
              have LMc58 := Aside0.mk c58
              clear c58
              obtain ⟨y284, hy284⟩ : ∃ y_ : List (S52), y_ = (x3_1 ++ [(⟨x268000_3, (⟨x268001_3, x268002_3, x268003_3, x268004_3⟩ : S49), x268005_3⟩ : S52)]) := ⟨_, rfl⟩
              replace H : (regex_reader_cat.l0 k3 y284 t270 t271 t272 t273 t274) = some (r1, r2, r3, r4, r5, r6, r7, r8, r9, r10, r11) := by first | (rw [hy284]; with_reducible exact H) | (have H2_ := (Option.bind_some _ _).symm.trans H; rw [hy284]; with_reducible exact H2_) | (have H2_ := (Option.bind_some _ _).symm.trans H; with_reducible exact H2_) | with_reducible exact H | (rw [hy284]; exact H) | exact H
              have Ny284 := Aside0.mk hy284
              clear hy284
              have H' := Aside0.mk H
              clear H
              go_wp2_with (first | ((with_reducible refine gate_callee (f := 36) rfl ?_); refine goesL_ (some 42) rfl rfl Try.func36 (by kernel_rfl) rfl #[.pointer (some ⟨g, 0, none⟩)] rfl qd7 ?_; (with_reducible refine (regex_reader_next.calls g x1000_3 x1001_3 x1002_3 x1003_3 x1004_3 t268 false t270 t271 t272 t273 t274 w0 _ ?side1 ?side2 ?side3 A23.out).mono ?_); (case side1 => repeat (first | (with_reducible first | exact HI0.out | apply IsS76.alloc | apply IsS76.drewN | apply IsS76.drew | apply IsS76.set_0 | apply IsS76.set_1 | apply IsS76.set_2 | apply IsS76.set_3 | apply IsS76.set_4 | apply IsS76.far (hne := NB0_241.out) | apply IsS76.far (hne := NB0_267.out)) | exact HI0.out)); (case side2 => repeat (first | (with_reducible first | exact HB.out | apply below_alloc | apply pw_below_drewN | apply below_drew1 | refine below_set ?_ (IsS76.ge HI0.out) | refine below_set ?_ GE241.out | refine below_set ?_ GE267.out) | exact HB.out)); (case side3 => exact hT); rintro e w59 ⟨rfl, hi, hb, hk⟩; refine ⟨_, rfl, ?_⟩; have n0_ := Aside0.mk (Kd.R_mono (Kd.R_keep (IsS76.apart (show IsS76 w0 _ g x1000_3 x1001_3 x1002_3 x1003_3 x1004_3 from by repeat (first | (with_reducible first | exact HI0.out | apply IsS76.alloc | apply IsS76.drewN | apply IsS76.drew | apply IsS76.set_0 | apply IsS76.set_1 | apply IsS76.set_2 | apply IsS76.set_3 | apply IsS76.set_4 | apply IsS76.far (hne := NB0_241.out) | apply IsS76.far (hne := NB0_267.out)) | exact HI0.out)) qd5 qd16) hk (fun _ h => h.2)) (fun _ h => h.1)); have n1_ := Aside0.mk (Kd.R_mono (Kd.R_keep (IsS76.apart (show IsS76 w0 _ g x1000_3 x1001_3 x1002_3 x1003_3 x1004_3 from by repeat (first | (with_reducible first | exact HI0.out | apply IsS76.alloc | apply IsS76.drewN | apply IsS76.drew | apply IsS76.set_0 | apply IsS76.set_1 | apply IsS76.set_2 | apply IsS76.set_3 | apply IsS76.set_4 | apply IsS76.far (hne := NB0_241.out) | apply IsS76.far (hne := NB0_267.out)) | exact HI0.out)) qd6 qd16) hk (fun _ h => h.2)) (fun _ h => h.1)); have n2_ := Aside0.mk (KeepBut.blk hk (g' := gb241) (o := .cells #[.int .i64 0, .int .u64 0, .int .u64 0, .int .u64 0, .int .u64 0, .slice none 0 0] 52 (0, 0)) qd1 NB241_0.out (by simp)); have n3_ := Aside0.mk (KeepBut.blk hk (g' := gb267) (o := .cells #[.int .i64 x268000_3, .int .u64 x268001_3, .int .u64 x268002_3, .int .u64 x268003_3, .int .u64 x268004_3, u268005] 52 (0, 0)) qd4 NB267_0.out (by simp)); have n4_ := Aside0.mk (KeepBut.trans qd0 hk (.inl rfl)); have n5_ := Aside0.mk (hb); have n6_ := Aside0.mk (hi); clear HO_3; clear HO_268005; clear BK241; clear BK267; clear HK; clear HB; clear HI0; have HO_3 := n0_; have HO_268005 := n1_; have BK241 := n2_; have BK267 := n3_; have HK := n4_; have HB := n5_; have HI0 := n6_; clear n0_ n1_ n2_ n3_ n4_ n5_ n6_; (try clear hb); (try clear hb2); (try clear hk); (try clear hi)) | ((with_reducible refine gate_dst (N := 48) rfl ?_); refine look_event (v := .int .i64 5) rfl qd14 ?_; intro w60 hb; have n0_ := Aside0.mk (Kd.R_below qd5 hb); have n1_ := Aside0.mk (Kd.R_below qd6 hb); have n2_ := Aside0.mk (blk_below (g := gb241) (o := .cells #[.int .i64 0, .int .u64 0, .int .u64 0, .int .u64 0, .int .u64 0, .slice none 0 0] 52 (0, 0)) qd1 hb); have n3_ := Aside0.mk (blk_below (g := gb267) (o := .cells #[.int .i64 x268000_3, .int .u64 x268001_3, .int .u64 x268002_3, .int .u64 x268003_3, .int .u64 x268004_3, u268005] 52 (0, 0)) qd4 hb); have n4_ := Aside0.mk (IsS76.below qd2 hb); have n5_ := Aside0.mk (KeepBut.trans qd0 (KeepBut.of_below hb g none) (.inl rfl)); have n6_ := Aside0.mk (below_step qd3 hb); clear HO_3; clear HO_268005; clear BK241; clear BK267; clear HI0; clear HK; clear HB; have HO_3 := n0_; have HO_268005 := n1_; have BK241 := n2_; have BK267 := n3_; have HI0 := n4_; have HK := n5_; have HB := n6_; clear n0_ n1_ n2_ n3_ n4_ n5_ n6_; clear hb; have hnb61 := NB267_241.out; have hnc61 := NB241_267.out; have hnb62 := NB267_0.out; have hnc62 := NB0_267.out; have hcz63_0 : w60.cell? ⟨gb267, 0, none⟩ = some (.int .i64 x268000_3) := (blk_cell BK267.out 0).trans rfl; have hcz63_1 : w60.cell? ⟨gb267, 1, none⟩ = some (.int .u64 x268001_3) := (blk_cell BK267.out 1).trans rfl; have hcz63_2 : w60.cell? ⟨gb267, 2, none⟩ = some (.int .u64 x268002_3) := (blk_cell BK267.out 2).trans rfl; have hcz63_3 : w60.cell? ⟨gb267, 3, none⟩ = some (.int .u64 x268003_3) := (blk_cell BK267.out 3).trans rfl; have hcz63_4 : w60.cell? ⟨gb267, 4, none⟩ = some (.int .u64 x268004_3) := (blk_cell BK267.out 4).trans rfl; have hcz63_5 : w60.cell? ⟨gb267, 5, none⟩ = some (u268005) := (blk_cell BK267.out 5).trans rfl; have hfz63_0 := blk_frozen BK267.out 0; have hfz63_1 := blk_frozen BK267.out 1; have hfz63_2 := blk_frozen BK267.out 2; have hfz63_3 := blk_frozen BK267.out 3; have hfz63_4 := blk_frozen BK267.out 4; have hfz63_5 := blk_frozen BK267.out 5; obtain ⟨Ao65, co65, eo65⟩ := Kd.R_slice HO_268005.out; subst eo65) | ((with_reducible refine gate_builtin (b := .append) (xs := #[.tmp 66, .tmp 68]) rfl ?_); at_builtin; refine Kd.R_append k52 w.heap.size rfl (.tmp 66) (.tmp 68) 50 52 (.agg #[(.int .i64 0), (.int .u64 0), (.int .u64 0), (.int .u64 0), (.int .u64 0), (.slice none 0 0)]) 64 rfl Try.underlying50 info52 rfl qd16 (by omega) u3 x3_1 (⟨x268000_3, (⟨x268001_3, x268002_3, x268003_3, x268004_3⟩ : S49), x268005_3⟩ : S52) [.int .i64 x268000_3, .int .u64 x268001_3, .int .u64 x268002_3, .int .u64 x268003_3, .int .u64 x268004_3, .slice Ao65 x268005_3.length co65] (fun k_ => k_ ≠ gb241 ∧ k_ ≠ gb267) (fun k_ => ((fun k_ => k_ ≠ gb241 ∧ k_ ≠ gb267)) k_ ∧ some k_ ≠ (u3 : Value).ownBlock) rfl rfl ?aP (fun _ hk => hk) ?aF ?aO (Below.refl _ _) ?aS ?aL ?_; (case aP => exact k52_mkM _ _ _ (⟨x268000_3, (⟨x268001_3, x268002_3, x268003_3, x268004_3⟩ : S49), x268005_3⟩ : S52) (Kd.R_mono (HO_268005.out) (fun k_ hk => ⟨⟨hk.2.1, hk.2.2⟩, hk.1⟩))); (case aF => exact (fun k_ hk => ⟨Kd.freshB (g := gb241) (o := .cells #[.int .i64 0, .int .u64 0, .int .u64 0, .int .u64 0, .int .u64 0, .slice none 0 0] 52 (0, 0)) qd1 k_ hk, Kd.freshB (g := gb267) (o := .cells #[.int .i64 x268000_3, .int .u64 x268001_3, .int .u64 x268002_3, .int .u64 x268003_3, .int .u64 x268004_3, .slice Ao65 x268005_3.length co65] 52 (0, 0)) qd4 k_ hk⟩)); (case aO => exact qd12); (case aS => exact (keep_size (w := w) (g := g) (row := none) qd0)); (case aL => have := LMc58.out; omega); intro v285 w64 ho hb hg hat; rw [← Ny284.out] at ho; have n0_ := Aside0.mk (blk_grown (g := gb241) (o := .cells #[.int .i64 0, .int .u64 0, .int .u64 0, .int .u64 0, .int .u64 0, .slice none 0 0] 52 (0, 0)) qd1 hg (Kd.R_away HO_3.out (fun _ hk => hk.2.1))); have n1_ := Aside0.mk (blk_grown (g := gb267) (o := .cells #[.int .i64 x268000_3, .int .u64 x268001_3, .int .u64 x268002_3, .int .u64 x268003_3, .int .u64 x268004_3, .slice Ao65 x268005_3.length co65] 52 (0, 0)) qd4 hg (Kd.R_away HO_3.out (fun _ hk => hk.2.2))); have n2_ := Aside0.mk (IsS76.grown qd2 hg (IsS76.own_ne HI0.out HO_3.out qd16)); have n3_ := Aside0.mk (below_weaken qd3 HL.out hb); have n4_ := Aside0.mk (KeepBut.trans qd0 (KeepBut.of_grown hg g) (Kd.R_base2 HO_3.out)); have n5_ := Aside0.mk (ho); clear BK241; clear BK267; clear HI0; clear HB; clear HK; clear HO_3; clear HO_268005; have BK241 := n0_; have BK267 := n1_; have HI0 := n2_; have HB := n3_; have HK := n4_; have HO286 := n5_; clear n0_ n1_ n2_ n3_ n4_ n5_; clear ho hb hg hat))
              go_roundg k3
              case measure => have := HK1.out; have := HJ4.out; have := HK3.out; omega
              case rel => exact ⟨(y284), (t270), (t271), (t272), (t273), (t274), H', ⟨by have := HK1.out; have := HJ4.out; have := HK3.out; omega⟩, ⟨by (with_reducible repeat (first | apply Kd.R_alloc | apply Kd.R_drewN | apply Kd.R_drew)); exact Kd.R_mono HO286.out (fun _ hk => hk.1)⟩, ⟨by (with_reducible repeat (first | refine blk_drewN ?_ _ | refine blk_drew ?_ | refine blk_alloc ?_ _)); exact BK241.out⟩, ⟨by repeat (first | (with_reducible first | exact HI0.out | apply IsS76.alloc | apply IsS76.drewN | apply IsS76.drew | apply IsS76.set_0 | apply IsS76.set_1 | apply IsS76.set_2 | apply IsS76.set_3 | apply IsS76.set_4 | apply IsS76.far (hne := NB0_241.out) | apply IsS76.far (hne := NB0_267.out)) | exact HI0.out)⟩, ⟨by repeat (first | (with_reducible first | exact HK.out | apply KeepBut.set_ | apply keep_drewN | apply keep_drew | apply keep_alloc | refine keep_far ?_ GW241.out _ | refine keep_far ?_ GW267.out _) | exact HK.out)⟩, ⟨by repeat (first | (with_reducible first | exact HB.out | apply below_alloc | apply pw_below_drewN | apply below_drew1 | refine below_set ?_ (IsS76.ge HI0.out) | refine below_set ?_ GE241.out | refine below_set ?_ GE267.out) | exact HB.out)⟩⟩
             ·rw [if_neg c58] at H
              exact absurd H (by simp)
           ·rw [if_neg c45] at H
            have c45b0 : (t268 == 43) = false := beq_eq_false_iff_ne.mpr c45
            have c45b1 : (t268 != 43) = true := bne_iff_ne.mpr c45
            by_cases c66 : t268 = 63
            ·rw [if_pos c66] at H
             have c66b0 : (t268 == 63) = true := beq_iff_eq.mpr c66
             have c66b1 : (t268 != 63) = false := bne_eq_false_iff_eq.mpr c66
             clear c66
             by_cases c67 : t269 = true
             ·subst c67
              have H1 : (regex_reader_cat.l1 k3 x3_1 t270 (wrap64 (t271 + 1)) t272 t273 t274 6 0 0 0 0 (([(⟨x268000_3, (⟨x268001_3, x268002_3, x268003_3, x268004_3⟩ : S49), x268005_3⟩ : S52)] : List (S52)))) = some (r1, r2, r3, r4, r5, r6, r7, r8, r9, r10, r11) := by rw [if_pos rfl] at H; exact H
              clear H
              have H := H1
              clear H1
              obtain ⟨y287, hy287⟩ : ∃ y_ : List (S52), y_ = (([(⟨x268000_3, (⟨x268001_3, x268002_3, x268003_3, x268004_3⟩ : S49), x268005_3⟩ : S52)] : List (S52))) := ⟨_, rfl⟩
              replace H : (regex_reader_cat.l1 k3 x3_1 t270 (wrap64 (t271 + 1)) t272 t273 t274 6 0 0 0 0 y287) = some (r1, r2, r3, r4, r5, r6, r7, r8, r9, r10, r11) := by first | (rw [hy287]; with_reducible exact H) | (have H2_ := (Option.bind_some _ _).symm.trans H; rw [hy287]; with_reducible exact H2_) | (have H2_ := (Option.bind_some _ _).symm.trans H; with_reducible exact H2_) | with_reducible exact H | (rw [hy287]; exact H) | exact H
              have Ny287 := Aside0.mk hy287
              clear hy287
              have H' := Aside0.mk H
              clear H
              go_wp2_with (first | ((with_reducible refine gate_callee (f := 36) rfl ?_); refine goesL_ (some 42) rfl rfl Try.func36 (by kernel_rfl) rfl #[.pointer (some ⟨g, 0, none⟩)] rfl qd7 ?_; (with_reducible refine (regex_reader_next.calls g x1000_3 x1001_3 x1002_3 x1003_3 x1004_3 t268 true t270 t271 t272 t273 t274 w0 _ ?side1 ?side2 ?side3 A23.out).mono ?_); (case side1 => repeat (first | (with_reducible first | exact HI0.out | apply IsS76.alloc | apply IsS76.drewN | apply IsS76.drew | apply IsS76.set_0 | apply IsS76.set_1 | apply IsS76.set_2 | apply IsS76.set_3 | apply IsS76.set_4 | apply IsS76.far (hne := NB0_241.out) | apply IsS76.far (hne := NB0_267.out)) | exact HI0.out)); (case side2 => repeat (first | (with_reducible first | exact HB.out | apply below_alloc | apply pw_below_drewN | apply below_drew1 | refine below_set ?_ (IsS76.ge HI0.out) | refine below_set ?_ GE241.out | refine below_set ?_ GE267.out) | exact HB.out)); (case side3 => exact hT); rintro e w68 ⟨rfl, hi, hb, hk⟩; refine ⟨_, rfl, ?_⟩; have n0_ := Aside0.mk (Kd.R_mono (Kd.R_keep (IsS76.apart (show IsS76 w0 _ g x1000_3 x1001_3 x1002_3 x1003_3 x1004_3 from by repeat (first | (with_reducible first | exact HI0.out | apply IsS76.alloc | apply IsS76.drewN | apply IsS76.drew | apply IsS76.set_0 | apply IsS76.set_1 | apply IsS76.set_2 | apply IsS76.set_3 | apply IsS76.set_4 | apply IsS76.far (hne := NB0_241.out) | apply IsS76.far (hne := NB0_267.out)) | exact HI0.out)) qd5 qd16) hk (fun _ h => h.2)) (fun _ h => h.1)); have n1_ := Aside0.mk (Kd.R_mono (Kd.R_keep (IsS76.apart (show IsS76 w0 _ g x1000_3 x1001_3 x1002_3 x1003_3 x1004_3 from by repeat (first | (with_reducible first | exact HI0.out | apply IsS76.alloc | apply IsS76.drewN | apply IsS76.drew | apply IsS76.set_0 | apply IsS76.set_1 | apply IsS76.set_2 | apply IsS76.set_3 | apply IsS76.set_4 | apply IsS76.far (hne := NB0_241.out) | apply IsS76.far (hne := NB0_267.out)) | exact HI0.out)) qd6 qd16) hk (fun _ h => h.2)) (fun _ h => h.1)); have n2_ := Aside0.mk (KeepBut.blk hk (g' := gb241) (o := .cells #[.int .i64 0, .int .u64 0, .int .u64 0, .int .u64 0, .int .u64 0, .slice none 0 0] 52 (0, 0)) qd1 NB241_0.out (by simp)); have n3_ := Aside0.mk (KeepBut.blk hk (g' := gb267) (o := .cells #[.int .i64 x268000_3, .int .u64 x268001_3, .int .u64 x268002_3, .int .u64 x268003_3, .int .u64 x268004_3, u268005] 52 (0, 0)) qd4 NB267_0.out (by simp)); have n4_ := Aside0.mk (KeepBut.trans qd0 hk (.inl rfl)); have n5_ := Aside0.mk (hb); have n6_ := Aside0.mk (hi); clear HO_3; clear HO_268005; clear BK241; clear BK267; clear HK; clear HB; clear HI0; have HO_3 := n0_; have HO_268005 := n1_; have BK241 := n2_; have BK267 := n3_; have HK := n4_; have HB := n5_; have HI0 := n6_; clear n0_ n1_ n2_ n3_ n4_ n5_ n6_; (try clear hb); (try clear hb2); (try clear hk); (try clear hi)) | ((with_reducible refine gate_dst (N := 48) rfl ?_); refine look_event (v := .int .i64 6) rfl qd14 ?_; intro w69 hb; have n0_ := Aside0.mk (Kd.R_below qd5 hb); have n1_ := Aside0.mk (Kd.R_below qd6 hb); have n2_ := Aside0.mk (blk_below (g := gb241) (o := .cells #[.int .i64 0, .int .u64 0, .int .u64 0, .int .u64 0, .int .u64 0, .slice none 0 0] 52 (0, 0)) qd1 hb); have n3_ := Aside0.mk (blk_below (g := gb267) (o := .cells #[.int .i64 x268000_3, .int .u64 x268001_3, .int .u64 x268002_3, .int .u64 x268003_3, .int .u64 x268004_3, u268005] 52 (0, 0)) qd4 hb); have n4_ := Aside0.mk (IsS76.below qd2 hb); have n5_ := Aside0.mk (KeepBut.trans qd0 (KeepBut.of_below hb g none) (.inl rfl)); have n6_ := Aside0.mk (below_step qd3 hb); clear HO_3; clear HO_268005; clear BK241; clear BK267; clear HI0; clear HK; clear HB; have HO_3 := n0_; have HO_268005 := n1_; have BK241 := n2_; have BK267 := n3_; have HI0 := n4_; have HK := n5_; have HB := n6_; clear n0_ n1_ n2_ n3_ n4_ n5_ n6_; clear hb; obtain ⟨HGz70, hgz70⟩ := HI0.out; have hcz70_0 := cellS76_0 HGz70; have hcz70_1 := cellS76_1 HGz70; have hcz70_2 := cellS76_2 HGz70; have hcz70_3 := cellS76_3 HGz70; have hcz70_4 := cellS76_4 HGz70; have hfz70_0 := blk_frozen HGz70 0; have hfz70_1 := blk_frozen HGz70 1; have hfz70_2 := blk_frozen HGz70 2; have hfz70_3 := blk_frozen HGz70 3; have hfz70_4 := blk_frozen HGz70 4; clear HGz70 hgz70; have hnb71 := NB267_241.out; have hnc71 := NB241_267.out; have hnb72 := NB267_0.out; have hnc72 := NB0_267.out; have hcz73_0 : w69.cell? ⟨gb267, 0, none⟩ = some (.int .i64 x268000_3) := (blk_cell BK267.out 0).trans rfl; have hcz73_1 : w69.cell? ⟨gb267, 1, none⟩ = some (.int .u64 x268001_3) := (blk_cell BK267.out 1).trans rfl; have hcz73_2 : w69.cell? ⟨gb267, 2, none⟩ = some (.int .u64 x268002_3) := (blk_cell BK267.out 2).trans rfl; have hcz73_3 : w69.cell? ⟨gb267, 3, none⟩ = some (.int .u64 x268003_3) := (blk_cell BK267.out 3).trans rfl; have hcz73_4 : w69.cell? ⟨gb267, 4, none⟩ = some (.int .u64 x268004_3) := (blk_cell BK267.out 4).trans rfl; have hcz73_5 : w69.cell? ⟨gb267, 5, none⟩ = some (u268005) := (blk_cell BK267.out 5).trans rfl; have hfz73_0 := blk_frozen BK267.out 0; have hfz73_1 := blk_frozen BK267.out 1; have hfz73_2 := blk_frozen BK267.out 2; have hfz73_3 := blk_frozen BK267.out 3; have hfz73_4 := blk_frozen BK267.out 4; have hfz73_5 := blk_frozen BK267.out 5; obtain ⟨Ao74, co74, eo74⟩ := Kd.R_slice HO_268005.out; subst eo74) | ((with_reducible refine gate_dst (N := 64) rfl ?_); refine Kd.R_lit k52 w.heap.size 52 ?hg (N := 64) ?hd (xs := ([(⟨x268000_3, (⟨x268001_3, x268002_3, x268003_3, x268004_3⟩ : S49), x268005_3⟩ : S52)] : List (S52))) (inner := [.int .i64 x268000_3, .int .u64 x268001_3, .int .u64 x268002_3, .int .u64 x268003_3, .int .u64 x268004_3, .slice Ao74 x268005_3.length co74]) (ok := (fun k_ => some k_ ≠ (u3 : Value).ownBlock ∧ k_ ≠ gb241 ∧ k_ ≠ gb267)) (okp := (fun k_ => some k_ ≠ (u3 : Value).ownBlock ∧ k_ ≠ gb241 ∧ k_ ≠ gb267)) ?hr ?hp (fun _ hk => hk) (⟨Kd.fresh' (Kd.R_lt qd8) _ (Nat.le_refl _), Kd.freshB (g := gb241) (o := .cells #[.int .i64 0, .int .u64 0, .int .u64 0, .int .u64 0, .int .u64 0, .slice none 0 0] 52 (0, 0)) qd9 _ (Nat.le_refl _), Kd.freshB (g := gb267) (o := .cells #[.int .i64 x268000_3, .int .u64 x268001_3, .int .u64 x268002_3, .int .u64 x268003_3, .int .u64 x268004_3, .slice Ao74 x268005_3.length co74] 52 (0, 0)) qd10 _ (Nat.le_refl _)⟩) (Below.refl _ _) ((keep_size (w := w) (g := g) (row := none) qd0)) (by simp) ?_; (case hd => rfl); (case hg => rfl); (case hr => first | (go_simp; done) | (go_simp; rfl)); (case hp => exact (Reps.c6 (show Kd.M k52 _ _ _ (⟨x268000_3, (⟨x268001_3, x268002_3, x268003_3, x268004_3⟩ : S49), x268005_3⟩ : S52) [.int .i64 x268000_3, .int .u64 x268001_3, .int .u64 x268002_3, .int .u64 x268003_3, .int .u64 x268004_3, .slice Ao74 x268005_3.length co74] from (k52_mkM _ _ _ (⟨x268000_3, (⟨x268001_3, x268002_3, x268003_3, x268004_3⟩ : S49), x268005_3⟩ : S52) (Kd.R_mono ((Kd.R_far (p := ⟨g, 1, none⟩) (IsS76.apart HI0.out HO_268005.out qd16) (fun _ hk => hk.2) (.int .i64 (wrap64 (t271 + 1))))) (fun k_ hk => ⟨hk.1.1, ⟨hk.1.2.1, hk.1.2.2⟩⟩)))) (Reps.none _ _))); intro v288 w75 ho76 hb0_ hg_ hnew0_; have hb := lr_below hg_; have hnew_ := lr_base hnew0_; clear hb0_ hg_ hnew0_; (first | rw [← Ny287.out] at ho76 | (simp only [Int.reduceToNat] at ho76; rw [← Ny287.out] at ho76)); have n0_ := Aside0.mk (Kd.R_elder' qd8 (hnew_) hb); have n1_ := Aside0.mk (ho76); have n2_ := Aside0.mk (blk_below (g := gb241) (o := .cells #[.int .i64 0, .int .u64 0, .int .u64 0, .int .u64 0, .int .u64 0, .slice none 0 0] 52 (0, 0)) qd9 hb); have n3_ := Aside0.mk (blk_below (g := gb267) (o := .cells #[.int .i64 x268000_3, .int .u64 x268001_3, .int .u64 x268002_3, .int .u64 x268003_3, .int .u64 x268004_3, .slice Ao74 x268005_3.length co74] 52 (0, 0)) qd10 hb); have n4_ := Aside0.mk (IsS76.below (show IsS76 w0 (w69.setCell ⟨g, 1, none⟩ (.int .i64 (wrap64 (t271 + 1)))) g t270 (wrap64 (t271 + 1)) t272 t273 t274 from by repeat (first | (with_reducible first | exact HI0.out | apply IsS76.alloc | apply IsS76.drewN | apply IsS76.drew | apply IsS76.set_0 | apply IsS76.set_1 | apply IsS76.set_2 | apply IsS76.set_3 | apply IsS76.set_4 | apply IsS76.far (hne := NB0_241.out) | apply IsS76.far (hne := NB0_267.out)) | exact HI0.out)) hb); have n5_ := Aside0.mk (KeepBut.trans qd0 (KeepBut.of_below hb g none) (.inl rfl)); have n6_ := Aside0.mk (below_step qd3 hb); clear HO_3; clear BK241; clear BK267; clear HI0; clear HK; clear HB; clear HO_268005; have HO_3 := n0_; have HO289 := n1_; have BK241 := n2_; have BK267 := n3_; have HI0 := n4_; have HK := n5_; have HB := n6_; clear n0_ n1_ n2_ n3_ n4_ n5_ n6_; clear hb ho76 hnew_; obtain ⟨Ao77, co77, eo77⟩ := Kd.R_slice HO289.out; subst eo77; have hcz78_0 : w75.cell? ⟨gb267, 0, none⟩ = some (.int .i64 x268000_3) := (blk_cell BK267.out 0).trans rfl; have hcz78_1 : w75.cell? ⟨gb267, 1, none⟩ = some (.int .u64 x268001_3) := (blk_cell BK267.out 1).trans rfl; have hcz78_2 : w75.cell? ⟨gb267, 2, none⟩ = some (.int .u64 x268002_3) := (blk_cell BK267.out 2).trans rfl; have hcz78_3 : w75.cell? ⟨gb267, 3, none⟩ = some (.int .u64 x268003_3) := (blk_cell BK267.out 3).trans rfl; have hcz78_4 : w75.cell? ⟨gb267, 4, none⟩ = some (.int .u64 x268004_3) := (blk_cell BK267.out 4).trans rfl; have hcz78_5 : w75.cell? ⟨gb267, 5, none⟩ = some (.slice Ao74 x268005_3.length co74) := (blk_cell BK267.out 5).trans rfl; have hfz78_0 := blk_frozen BK267.out 0; have hfz78_1 := blk_frozen BK267.out 1; have hfz78_2 := blk_frozen BK267.out 2; have hfz78_3 := blk_frozen BK267.out 3; have hfz78_4 := blk_frozen BK267.out 4; have hfz78_5 := blk_frozen BK267.out 5))
              go_roundg k3
              case measure => have := HK1.out; have := HJ4.out; have := HK3.out; omega
              case rel => exact ⟨(t270), (wrap64 (t271 + 1)), (t272), (t273), (t274), (6), (0), (0), (0), (0), (y287), (.slice Ao77 y287.length co77), H', ⟨by have := HK1.out; have := HJ4.out; have := HK3.out; omega⟩, ⟨by (with_reducible repeat (first | apply Kd.R_alloc | apply Kd.R_drewN | apply Kd.R_drew)); exact Kd.R_mono (Kd.R_far (p := ⟨gb267, 5, none⟩) (Kd.R_far (p := ⟨gb267, 4, none⟩) (Kd.R_far (p := ⟨gb267, 3, none⟩) (Kd.R_far (p := ⟨gb267, 2, none⟩) (Kd.R_far (p := ⟨gb267, 1, none⟩) (Kd.R_far (p := ⟨gb267, 0, none⟩) (Kd.R_mono HO_3.out (fun k_ hk => (⟨hk, hk.1.2.2⟩ : _ ∧ k_ ≠ gb267))) (fun _ hk => hk.2) (.int .i64 6)) (fun _ hk => hk.2) (.int .u64 0)) (fun _ hk => hk.2) (.int .u64 0)) (fun _ hk => hk.2) (.int .u64 0)) (fun _ hk => hk.2) (.int .u64 0)) (fun _ hk => hk.2) (.slice Ao77 y287.length co77)) (fun _ hk => ⟨hk.1.2, ⟨hk.1.1.2.1, hk.1.1.2.2⟩⟩)⟩, ⟨by (with_reducible repeat (first | apply Kd.R_alloc | apply Kd.R_drewN | apply Kd.R_drew)); exact Kd.R_mono (Kd.R_far (p := ⟨gb267, 5, none⟩) (Kd.R_far (p := ⟨gb267, 4, none⟩) (Kd.R_far (p := ⟨gb267, 3, none⟩) (Kd.R_far (p := ⟨gb267, 2, none⟩) (Kd.R_far (p := ⟨gb267, 1, none⟩) (Kd.R_far (p := ⟨gb267, 0, none⟩) (Kd.R_mono HO289.out (fun k_ hk => (⟨hk, hk.2.2⟩ : _ ∧ k_ ≠ gb267))) (fun _ hk => hk.2) (.int .i64 6)) (fun _ hk => hk.2) (.int .u64 0)) (fun _ hk => hk.2) (.int .u64 0)) (fun _ hk => hk.2) (.int .u64 0)) (fun _ hk => hk.2) (.int .u64 0)) (fun _ hk => hk.2) (.slice Ao77 y287.length co77)) (fun _ hk => ⟨hk.1.1, ⟨hk.1.2.1, hk.1.2.2⟩⟩)⟩, ⟨by (with_reducible repeat (first | refine blk_drewN ?_ _ | refine blk_drew ?_ | refine blk_alloc ?_ _)); refine blk_far ?_ NB241_267.out _; (with_reducible repeat (first | refine blk_drewN ?_ _ | refine blk_drew ?_ | refine blk_alloc ?_ _)); refine blk_far ?_ NB241_267.out _; (with_reducible repeat (first | refine blk_drewN ?_ _ | refine blk_drew ?_ | refine blk_alloc ?_ _)); refine blk_far ?_ NB241_267.out _; (with_reducible repeat (first | refine blk_drewN ?_ _ | refine blk_drew ?_ | refine blk_alloc ?_ _)); refine blk_far ?_ NB241_267.out _; (with_reducible repeat (first | refine blk_drewN ?_ _ | refine blk_drew ?_ | refine blk_alloc ?_ _)); refine blk_far ?_ NB241_267.out _; (with_reducible repeat (first | refine blk_drewN ?_ _ | refine blk_drew ?_ | refine blk_alloc ?_ _)); refine blk_far ?_ NB241_267.out _; (with_reducible repeat (first | refine blk_drewN ?_ _ | refine blk_drew ?_ | refine blk_alloc ?_ _)); exact BK241.out⟩, ⟨by (with_reducible repeat (first | refine blk_drewN ?_ _ | refine blk_drew ?_ | refine blk_alloc ?_ _)); refine blk_put (cs := #[.int .i64 6, .int .u64 0, .int .u64 0, .int .u64 0, .int .u64 0, .slice Ao74 x268005_3.length co74]) ?_ 5 _ rfl; (with_reducible repeat (first | refine blk_drewN ?_ _ | refine blk_drew ?_ | refine blk_alloc ?_ _)); refine blk_put (cs := #[.int .i64 6, .int .u64 0, .int .u64 0, .int .u64 0, .int .u64 x268004_3, .slice Ao74 x268005_3.length co74]) ?_ 4 _ rfl; (with_reducible repeat (first | refine blk_drewN ?_ _ | refine blk_drew ?_ | refine blk_alloc ?_ _)); refine blk_put (cs := #[.int .i64 6, .int .u64 0, .int .u64 0, .int .u64 x268003_3, .int .u64 x268004_3, .slice Ao74 x268005_3.length co74]) ?_ 3 _ rfl; (with_reducible repeat (first | refine blk_drewN ?_ _ | refine blk_drew ?_ | refine blk_alloc ?_ _)); refine blk_put (cs := #[.int .i64 6, .int .u64 0, .int .u64 x268002_3, .int .u64 x268003_3, .int .u64 x268004_3, .slice Ao74 x268005_3.length co74]) ?_ 2 _ rfl; (with_reducible repeat (first | refine blk_drewN ?_ _ | refine blk_drew ?_ | refine blk_alloc ?_ _)); refine blk_put (cs := #[.int .i64 6, .int .u64 x268001_3, .int .u64 x268002_3, .int .u64 x268003_3, .int .u64 x268004_3, .slice Ao74 x268005_3.length co74]) ?_ 1 _ rfl; (with_reducible repeat (first | refine blk_drewN ?_ _ | refine blk_drew ?_ | refine blk_alloc ?_ _)); refine blk_put (cs := #[.int .i64 x268000_3, .int .u64 x268001_3, .int .u64 x268002_3, .int .u64 x268003_3, .int .u64 x268004_3, .slice Ao74 x268005_3.length co74]) ?_ 0 _ rfl; (with_reducible repeat (first | refine blk_drewN ?_ _ | refine blk_drew ?_ | refine blk_alloc ?_ _)); exact BK267.out⟩, ⟨by repeat (first | (with_reducible first | exact HI0.out | apply IsS76.alloc | apply IsS76.drewN | apply IsS76.drew | apply IsS76.set_0 | apply IsS76.set_1 | apply IsS76.set_2 | apply IsS76.set_3 | apply IsS76.set_4 | apply IsS76.far (hne := NB0_241.out) | apply IsS76.far (hne := NB0_267.out)) | exact HI0.out)⟩, ⟨by repeat (first | (with_reducible first | exact HK.out | apply KeepBut.set_ | apply keep_drewN | apply keep_drew | apply keep_alloc | refine keep_far ?_ GW241.out _ | refine keep_far ?_ GW267.out _) | exact HK.out)⟩, ⟨by repeat (first | (with_reducible first | exact HB.out | apply below_alloc | apply pw_below_drewN | apply below_drew1 | refine below_set ?_ (IsS76.ge HI0.out) | refine below_set ?_ GE241.out | refine below_set ?_ GE267.out) | exact HB.out)⟩⟩
             ·replace c67 := Bool.eq_false_iff.mpr c67
              subst c67
              have H1 : (if x3_1.length < 2199023255552 then (regex_reader_cat.l0 k3 (x3_1 ++ [(⟨x268000_3, (⟨x268001_3, x268002_3, x268003_3, x268004_3⟩ : S49), x268005_3⟩ : S52)]) t270 t271 t272 t273 t274) else (none)) = some (r1, r2, r3, r4, r5, r6, r7, r8, r9, r10, r11) := by rw [if_neg (show ¬ (false = true) by decide)] at H; exact H
              clear H
              have H := H1
              clear H1
              by_cases c79 : x3_1.length < 2199023255552
              ·rw [if_pos c79] at H
               have LMc79 := Aside0.mk c79
               clear c79
               obtain ⟨y290, hy290⟩ : ∃ y_ : List (S52), y_ = (x3_1 ++ [(⟨x268000_3, (⟨x268001_3, x268002_3, x268003_3, x268004_3⟩ : S49), x268005_3⟩ : S52)]) := ⟨_, rfl⟩
               replace H : (regex_reader_cat.l0 k3 y290 t270 t271 t272 t273 t274) = some (r1, r2, r3, r4, r5, r6, r7, r8, r9, r10, r11) := by first | (rw [hy290]; with_reducible exact H) | (have H2_ := (Option.bind_some _ _).symm.trans H; rw [hy290]; with_reducible exact H2_) | (have H2_ := (Option.bind_some _ _).symm.trans H; with_reducible exact H2_) | with_reducible exact H | (rw [hy290]; exact H) | exact H
               have Ny290 := Aside0.mk hy290
               clear hy290
               have H' := Aside0.mk H
               clear H
               go_wp2_with (first | ((with_reducible refine gate_callee (f := 36) rfl ?_); refine goesL_ (some 42) rfl rfl Try.func36 (by kernel_rfl) rfl #[.pointer (some ⟨g, 0, none⟩)] rfl qd7 ?_; (with_reducible refine (regex_reader_next.calls g x1000_3 x1001_3 x1002_3 x1003_3 x1004_3 t268 false t270 t271 t272 t273 t274 w0 _ ?side1 ?side2 ?side3 A23.out).mono ?_); (case side1 => repeat (first | (with_reducible first | exact HI0.out | apply IsS76.alloc | apply IsS76.drewN | apply IsS76.drew | apply IsS76.set_0 | apply IsS76.set_1 | apply IsS76.set_2 | apply IsS76.set_3 | apply IsS76.set_4 | apply IsS76.far (hne := NB0_241.out) | apply IsS76.far (hne := NB0_267.out)) | exact HI0.out)); (case side2 => repeat (first | (with_reducible first | exact HB.out | apply below_alloc | apply pw_below_drewN | apply below_drew1 | refine below_set ?_ (IsS76.ge HI0.out) | refine below_set ?_ GE241.out | refine below_set ?_ GE267.out) | exact HB.out)); (case side3 => exact hT); rintro e w80 ⟨rfl, hi, hb, hk⟩; refine ⟨_, rfl, ?_⟩; have n0_ := Aside0.mk (Kd.R_mono (Kd.R_keep (IsS76.apart (show IsS76 w0 _ g x1000_3 x1001_3 x1002_3 x1003_3 x1004_3 from by repeat (first | (with_reducible first | exact HI0.out | apply IsS76.alloc | apply IsS76.drewN | apply IsS76.drew | apply IsS76.set_0 | apply IsS76.set_1 | apply IsS76.set_2 | apply IsS76.set_3 | apply IsS76.set_4 | apply IsS76.far (hne := NB0_241.out) | apply IsS76.far (hne := NB0_267.out)) | exact HI0.out)) qd5 qd16) hk (fun _ h => h.2)) (fun _ h => h.1)); have n1_ := Aside0.mk (Kd.R_mono (Kd.R_keep (IsS76.apart (show IsS76 w0 _ g x1000_3 x1001_3 x1002_3 x1003_3 x1004_3 from by repeat (first | (with_reducible first | exact HI0.out | apply IsS76.alloc | apply IsS76.drewN | apply IsS76.drew | apply IsS76.set_0 | apply IsS76.set_1 | apply IsS76.set_2 | apply IsS76.set_3 | apply IsS76.set_4 | apply IsS76.far (hne := NB0_241.out) | apply IsS76.far (hne := NB0_267.out)) | exact HI0.out)) qd6 qd16) hk (fun _ h => h.2)) (fun _ h => h.1)); have n2_ := Aside0.mk (KeepBut.blk hk (g' := gb241) (o := .cells #[.int .i64 0, .int .u64 0, .int .u64 0, .int .u64 0, .int .u64 0, .slice none 0 0] 52 (0, 0)) qd1 NB241_0.out (by simp)); have n3_ := Aside0.mk (KeepBut.blk hk (g' := gb267) (o := .cells #[.int .i64 x268000_3, .int .u64 x268001_3, .int .u64 x268002_3, .int .u64 x268003_3, .int .u64 x268004_3, u268005] 52 (0, 0)) qd4 NB267_0.out (by simp)); have n4_ := Aside0.mk (KeepBut.trans qd0 hk (.inl rfl)); have n5_ := Aside0.mk (hb); have n6_ := Aside0.mk (hi); clear HO_3; clear HO_268005; clear BK241; clear BK267; clear HK; clear HB; clear HI0; have HO_3 := n0_; have HO_268005 := n1_; have BK241 := n2_; have BK267 := n3_; have HK := n4_; have HB := n5_; have HI0 := n6_; clear n0_ n1_ n2_ n3_ n4_ n5_ n6_; (try clear hb); (try clear hb2); (try clear hk); (try clear hi)) | ((with_reducible refine gate_dst (N := 48) rfl ?_); refine look_event (v := .int .i64 6) rfl qd14 ?_; intro w81 hb; have n0_ := Aside0.mk (Kd.R_below qd5 hb); have n1_ := Aside0.mk (Kd.R_below qd6 hb); have n2_ := Aside0.mk (blk_below (g := gb241) (o := .cells #[.int .i64 0, .int .u64 0, .int .u64 0, .int .u64 0, .int .u64 0, .slice none 0 0] 52 (0, 0)) qd1 hb); have n3_ := Aside0.mk (blk_below (g := gb267) (o := .cells #[.int .i64 x268000_3, .int .u64 x268001_3, .int .u64 x268002_3, .int .u64 x268003_3, .int .u64 x268004_3, u268005] 52 (0, 0)) qd4 hb); have n4_ := Aside0.mk (IsS76.below qd2 hb); have n5_ := Aside0.mk (KeepBut.trans qd0 (KeepBut.of_below hb g none) (.inl rfl)); have n6_ := Aside0.mk (below_step qd3 hb); clear HO_3; clear HO_268005; clear BK241; clear BK267; clear HI0; clear HK; clear HB; have HO_3 := n0_; have HO_268005 := n1_; have BK241 := n2_; have BK267 := n3_; have HI0 := n4_; have HK := n5_; have HB := n6_; clear n0_ n1_ n2_ n3_ n4_ n5_ n6_; clear hb; have hnb82 := NB267_241.out; have hnc82 := NB241_267.out; have hnb83 := NB267_0.out; have hnc83 := NB0_267.out; have hcz84_0 : w81.cell? ⟨gb267, 0, none⟩ = some (.int .i64 x268000_3) := (blk_cell BK267.out 0).trans rfl; have hcz84_1 : w81.cell? ⟨gb267, 1, none⟩ = some (.int .u64 x268001_3) := (blk_cell BK267.out 1).trans rfl; have hcz84_2 : w81.cell? ⟨gb267, 2, none⟩ = some (.int .u64 x268002_3) := (blk_cell BK267.out 2).trans rfl; have hcz84_3 : w81.cell? ⟨gb267, 3, none⟩ = some (.int .u64 x268003_3) := (blk_cell BK267.out 3).trans rfl; have hcz84_4 : w81.cell? ⟨gb267, 4, none⟩ = some (.int .u64 x268004_3) := (blk_cell BK267.out 4).trans rfl; have hcz84_5 : w81.cell? ⟨gb267, 5, none⟩ = some (u268005) := (blk_cell BK267.out 5).trans rfl; have hfz84_0 := blk_frozen BK267.out 0; have hfz84_1 := blk_frozen BK267.out 1; have hfz84_2 := blk_frozen BK267.out 2; have hfz84_3 := blk_frozen BK267.out 3; have hfz84_4 := blk_frozen BK267.out 4; have hfz84_5 := blk_frozen BK267.out 5; obtain ⟨Ao86, co86, eo86⟩ := Kd.R_slice HO_268005.out; subst eo86) | ((with_reducible refine gate_builtin (b := .append) (xs := #[.tmp 66, .tmp 68]) rfl ?_); at_builtin; refine Kd.R_append k52 w.heap.size rfl (.tmp 66) (.tmp 68) 50 52 (.agg #[(.int .i64 0), (.int .u64 0), (.int .u64 0), (.int .u64 0), (.int .u64 0), (.slice none 0 0)]) 64 rfl Try.underlying50 info52 rfl qd16 (by omega) u3 x3_1 (⟨x268000_3, (⟨x268001_3, x268002_3, x268003_3, x268004_3⟩ : S49), x268005_3⟩ : S52) [.int .i64 x268000_3, .int .u64 x268001_3, .int .u64 x268002_3, .int .u64 x268003_3, .int .u64 x268004_3, .slice Ao86 x268005_3.length co86] (fun k_ => k_ ≠ gb241 ∧ k_ ≠ gb267) (fun k_ => ((fun k_ => k_ ≠ gb241 ∧ k_ ≠ gb267)) k_ ∧ some k_ ≠ (u3 : Value).ownBlock) rfl rfl ?aP (fun _ hk => hk) ?aF ?aO (Below.refl _ _) ?aS ?aL ?_; (case aP => exact k52_mkM _ _ _ (⟨x268000_3, (⟨x268001_3, x268002_3, x268003_3, x268004_3⟩ : S49), x268005_3⟩ : S52) (Kd.R_mono (HO_268005.out) (fun k_ hk => ⟨⟨hk.2.1, hk.2.2⟩, hk.1⟩))); (case aF => exact (fun k_ hk => ⟨Kd.freshB (g := gb241) (o := .cells #[.int .i64 0, .int .u64 0, .int .u64 0, .int .u64 0, .int .u64 0, .slice none 0 0] 52 (0, 0)) qd1 k_ hk, Kd.freshB (g := gb267) (o := .cells #[.int .i64 x268000_3, .int .u64 x268001_3, .int .u64 x268002_3, .int .u64 x268003_3, .int .u64 x268004_3, .slice Ao86 x268005_3.length co86] 52 (0, 0)) qd4 k_ hk⟩)); (case aO => exact qd12); (case aS => exact (keep_size (w := w) (g := g) (row := none) qd0)); (case aL => have := LMc79.out; omega); intro v291 w85 ho hb hg hat; rw [← Ny290.out] at ho; have n0_ := Aside0.mk (blk_grown (g := gb241) (o := .cells #[.int .i64 0, .int .u64 0, .int .u64 0, .int .u64 0, .int .u64 0, .slice none 0 0] 52 (0, 0)) qd1 hg (Kd.R_away HO_3.out (fun _ hk => hk.2.1))); have n1_ := Aside0.mk (blk_grown (g := gb267) (o := .cells #[.int .i64 x268000_3, .int .u64 x268001_3, .int .u64 x268002_3, .int .u64 x268003_3, .int .u64 x268004_3, .slice Ao86 x268005_3.length co86] 52 (0, 0)) qd4 hg (Kd.R_away HO_3.out (fun _ hk => hk.2.2))); have n2_ := Aside0.mk (IsS76.grown qd2 hg (IsS76.own_ne HI0.out HO_3.out qd16)); have n3_ := Aside0.mk (below_weaken qd3 HL.out hb); have n4_ := Aside0.mk (KeepBut.trans qd0 (KeepBut.of_grown hg g) (Kd.R_base2 HO_3.out)); have n5_ := Aside0.mk (ho); clear BK241; clear BK267; clear HI0; clear HB; clear HK; clear HO_3; clear HO_268005; have BK241 := n0_; have BK267 := n1_; have HI0 := n2_; have HB := n3_; have HK := n4_; have HO292 := n5_; clear n0_ n1_ n2_ n3_ n4_ n5_; clear ho hb hg hat))
               go_roundg k3
               case measure => have := HK1.out; have := HJ4.out; have := HK3.out; omega
               case rel => exact ⟨(y290), (t270), (t271), (t272), (t273), (t274), H', ⟨by have := HK1.out; have := HJ4.out; have := HK3.out; omega⟩, ⟨by (with_reducible repeat (first | apply Kd.R_alloc | apply Kd.R_drewN | apply Kd.R_drew)); exact Kd.R_mono HO292.out (fun _ hk => hk.1)⟩, ⟨by (with_reducible repeat (first | refine blk_drewN ?_ _ | refine blk_drew ?_ | refine blk_alloc ?_ _)); exact BK241.out⟩, ⟨by repeat (first | (with_reducible first | exact HI0.out | apply IsS76.alloc | apply IsS76.drewN | apply IsS76.drew | apply IsS76.set_0 | apply IsS76.set_1 | apply IsS76.set_2 | apply IsS76.set_3 | apply IsS76.set_4 | apply IsS76.far (hne := NB0_241.out) | apply IsS76.far (hne := NB0_267.out)) | exact HI0.out)⟩, ⟨by repeat (first | (with_reducible first | exact HK.out | apply KeepBut.set_ | apply keep_drewN | apply keep_drew | apply keep_alloc | refine keep_far ?_ GW241.out _ | refine keep_far ?_ GW267.out _) | exact HK.out)⟩, ⟨by repeat (first | (with_reducible first | exact HB.out | apply below_alloc | apply pw_below_drewN | apply below_drew1 | refine below_set ?_ (IsS76.ge HI0.out) | refine below_set ?_ GE241.out | refine below_set ?_ GE267.out) | exact HB.out)⟩⟩
              ·rw [if_neg c79] at H
               exact absurd H (by simp)
            ·rw [if_neg c66] at H
             have c66b0 : (t268 == 63) = false := beq_eq_false_iff_ne.mpr c66
             have c66b1 : (t268 != 63) = true := bne_iff_ne.mpr c66
             by_cases c87 : t269 = true
             ·subst c87
              have H1 : (if x3_1.length < 2199023255552 then (regex_reader_cat.l0 k3 (x3_1 ++ [(⟨x268000_3, (⟨x268001_3, x268002_3, x268003_3, x268004_3⟩ : S49), x268005_3⟩ : S52)]) t270 t271 t272 t273 t274) else (none)) = some (r1, r2, r3, r4, r5, r6, r7, r8, r9, r10, r11) := by rw [if_pos rfl] at H; exact H
              clear H
              have H := H1
              clear H1
              by_cases c88 : x3_1.length < 2199023255552
              ·rw [if_pos c88] at H
               have LMc88 := Aside0.mk c88
               clear c88
               obtain ⟨y293, hy293⟩ : ∃ y_ : List (S52), y_ = (x3_1 ++ [(⟨x268000_3, (⟨x268001_3, x268002_3, x268003_3, x268004_3⟩ : S49), x268005_3⟩ : S52)]) := ⟨_, rfl⟩
               replace H : (regex_reader_cat.l0 k3 y293 t270 t271 t272 t273 t274) = some (r1, r2, r3, r4, r5, r6, r7, r8, r9, r10, r11) := by first | (rw [hy293]; with_reducible exact H) | (have H2_ := (Option.bind_some _ _).symm.trans H; rw [hy293]; with_reducible exact H2_) | (have H2_ := (Option.bind_some _ _).symm.trans H; with_reducible exact H2_) | with_reducible exact H | (rw [hy293]; exact H) | exact H
               have Ny293 := Aside0.mk hy293
               clear hy293
               have H' := Aside0.mk H
               clear H
               go_wp2_with (first | ((with_reducible refine gate_callee (f := 36) rfl ?_); refine goesL_ (some 42) rfl rfl Try.func36 (by kernel_rfl) rfl #[.pointer (some ⟨g, 0, none⟩)] rfl qd7 ?_; (with_reducible refine (regex_reader_next.calls g x1000_3 x1001_3 x1002_3 x1003_3 x1004_3 t268 true t270 t271 t272 t273 t274 w0 _ ?side1 ?side2 ?side3 A23.out).mono ?_); (case side1 => repeat (first | (with_reducible first | exact HI0.out | apply IsS76.alloc | apply IsS76.drewN | apply IsS76.drew | apply IsS76.set_0 | apply IsS76.set_1 | apply IsS76.set_2 | apply IsS76.set_3 | apply IsS76.set_4 | apply IsS76.far (hne := NB0_241.out) | apply IsS76.far (hne := NB0_267.out)) | exact HI0.out)); (case side2 => repeat (first | (with_reducible first | exact HB.out | apply below_alloc | apply pw_below_drewN | apply below_drew1 | refine below_set ?_ (IsS76.ge HI0.out) | refine below_set ?_ GE241.out | refine below_set ?_ GE267.out) | exact HB.out)); (case side3 => exact hT); rintro e w89 ⟨rfl, hi, hb, hk⟩; refine ⟨_, rfl, ?_⟩; have n0_ := Aside0.mk (Kd.R_mono (Kd.R_keep (IsS76.apart (show IsS76 w0 _ g x1000_3 x1001_3 x1002_3 x1003_3 x1004_3 from by repeat (first | (with_reducible first | exact HI0.out | apply IsS76.alloc | apply IsS76.drewN | apply IsS76.drew | apply IsS76.set_0 | apply IsS76.set_1 | apply IsS76.set_2 | apply IsS76.set_3 | apply IsS76.set_4 | apply IsS76.far (hne := NB0_241.out) | apply IsS76.far (hne := NB0_267.out)) | exact HI0.out)) qd5 qd16) hk (fun _ h => h.2)) (fun _ h => h.1)); have n1_ := Aside0.mk (Kd.R_mono (Kd.R_keep (IsS76.apart (show IsS76 w0 _ g x1000_3 x1001_3 x1002_3 x1003_3 x1004_3 from by repeat (first | (with_reducible first | exact HI0.out | apply IsS76.alloc | apply IsS76.drewN | apply IsS76.drew | apply IsS76.set_0 | apply IsS76.set_1 | apply IsS76.set_2 | apply IsS76.set_3 | apply IsS76.set_4 | apply IsS76.far (hne := NB0_241.out) | apply IsS76.far (hne := NB0_267.out)) | exact HI0.out)) qd6 qd16) hk (fun _ h => h.2)) (fun _ h => h.1)); have n2_ := Aside0.mk (KeepBut.blk hk (g' := gb241) (o := .cells #[.int .i64 0, .int .u64 0, .int .u64 0, .int .u64 0, .int .u64 0, .slice none 0 0] 52 (0, 0)) qd1 NB241_0.out (by simp)); have n3_ := Aside0.mk (KeepBut.blk hk (g' := gb267) (o := .cells #[.int .i64 x268000_3, .int .u64 x268001_3, .int .u64 x268002_3, .int .u64 x268003_3, .int .u64 x268004_3, u268005] 52 (0, 0)) qd4 NB267_0.out (by simp)); have n4_ := Aside0.mk (KeepBut.trans qd0 hk (.inl rfl)); have n5_ := Aside0.mk (hb); have n6_ := Aside0.mk (hi); clear HO_3; clear HO_268005; clear BK241; clear BK267; clear HK; clear HB; clear HI0; have HO_3 := n0_; have HO_268005 := n1_; have BK241 := n2_; have BK267 := n3_; have HK := n4_; have HB := n5_; have HI0 := n6_; clear n0_ n1_ n2_ n3_ n4_ n5_ n6_; (try clear hb); (try clear hb2); (try clear hk); (try clear hi)) | ((with_reducible refine gate_dst (N := 48) rfl ?_); refine look_event (v := .int .i64 0) rfl qd14 ?_; intro w90 hb; have n0_ := Aside0.mk (Kd.R_below qd5 hb); have n1_ := Aside0.mk (Kd.R_below qd6 hb); have n2_ := Aside0.mk (blk_below (g := gb241) (o := .cells #[.int .i64 0, .int .u64 0, .int .u64 0, .int .u64 0, .int .u64 0, .slice none 0 0] 52 (0, 0)) qd1 hb); have n3_ := Aside0.mk (blk_below (g := gb267) (o := .cells #[.int .i64 x268000_3, .int .u64 x268001_3, .int .u64 x268002_3, .int .u64 x268003_3, .int .u64 x268004_3, u268005] 52 (0, 0)) qd4 hb); have n4_ := Aside0.mk (IsS76.below qd2 hb); have n5_ := Aside0.mk (KeepBut.trans qd0 (KeepBut.of_below hb g none) (.inl rfl)); have n6_ := Aside0.mk (below_step qd3 hb); clear HO_3; clear HO_268005; clear BK241; clear BK267; clear HI0; clear HK; clear HB; have HO_3 := n0_; have HO_268005 := n1_; have BK241 := n2_; have BK267 := n3_; have HI0 := n4_; have HK := n5_; have HB := n6_; clear n0_ n1_ n2_ n3_ n4_ n5_ n6_; clear hb; have hnb91 := NB267_241.out; have hnc91 := NB241_267.out; have hnb92 := NB267_0.out; have hnc92 := NB0_267.out; have hcz93_0 : w90.cell? ⟨gb267, 0, none⟩ = some (.int .i64 x268000_3) := (blk_cell BK267.out 0).trans rfl; have hcz93_1 : w90.cell? ⟨gb267, 1, none⟩ = some (.int .u64 x268001_3) := (blk_cell BK267.out 1).trans rfl; have hcz93_2 : w90.cell? ⟨gb267, 2, none⟩ = some (.int .u64 x268002_3) := (blk_cell BK267.out 2).trans rfl; have hcz93_3 : w90.cell? ⟨gb267, 3, none⟩ = some (.int .u64 x268003_3) := (blk_cell BK267.out 3).trans rfl; have hcz93_4 : w90.cell? ⟨gb267, 4, none⟩ = some (.int .u64 x268004_3) := (blk_cell BK267.out 4).trans rfl; have hcz93_5 : w90.cell? ⟨gb267, 5, none⟩ = some (u268005) := (blk_cell BK267.out 5).trans rfl; have hfz93_0 := blk_frozen BK267.out 0; have hfz93_1 := blk_frozen BK267.out 1; have hfz93_2 := blk_frozen BK267.out 2; have hfz93_3 := blk_frozen BK267.out 3; have hfz93_4 := blk_frozen BK267.out 4; have hfz93_5 := blk_frozen BK267.out 5; obtain ⟨Ao95, co95, eo95⟩ := Kd.R_slice HO_268005.out; subst eo95) | ((with_reducible refine gate_builtin (b := .append) (xs := #[.tmp 66, .tmp 68]) rfl ?_); at_builtin; refine Kd.R_append k52 w.heap.size rfl (.tmp 66) (.tmp 68) 50 52 (.agg #[(.int .i64 0), (.int .u64 0), (.int .u64 0), (.int .u64 0), (.int .u64 0), (.slice none 0 0)]) 64 rfl Try.underlying50 info52 rfl qd16 (by omega) u3 x3_1 (⟨x268000_3, (⟨x268001_3, x268002_3, x268003_3, x268004_3⟩ : S49), x268005_3⟩ : S52) [.int .i64 x268000_3, .int .u64 x268001_3, .int .u64 x268002_3, .int .u64 x268003_3, .int .u64 x268004_3, .slice Ao95 x268005_3.length co95] (fun k_ => k_ ≠ gb241 ∧ k_ ≠ gb267) (fun k_ => ((fun k_ => k_ ≠ gb241 ∧ k_ ≠ gb267)) k_ ∧ some k_ ≠ (u3 : Value).ownBlock) rfl rfl ?aP (fun _ hk => hk) ?aF ?aO (Below.refl _ _) ?aS ?aL ?_; (case aP => exact k52_mkM _ _ _ (⟨x268000_3, (⟨x268001_3, x268002_3, x268003_3, x268004_3⟩ : S49), x268005_3⟩ : S52) (Kd.R_mono (HO_268005.out) (fun k_ hk => ⟨⟨hk.2.1, hk.2.2⟩, hk.1⟩))); (case aF => exact (fun k_ hk => ⟨Kd.freshB (g := gb241) (o := .cells #[.int .i64 0, .int .u64 0, .int .u64 0, .int .u64 0, .int .u64 0, .slice none 0 0] 52 (0, 0)) qd1 k_ hk, Kd.freshB (g := gb267) (o := .cells #[.int .i64 x268000_3, .int .u64 x268001_3, .int .u64 x268002_3, .int .u64 x268003_3, .int .u64 x268004_3, .slice Ao95 x268005_3.length co95] 52 (0, 0)) qd4 k_ hk⟩)); (case aO => exact qd12); (case aS => exact (keep_size (w := w) (g := g) (row := none) qd0)); (case aL => have := LMc88.out; omega); intro v294 w94 ho hb hg hat; rw [← Ny293.out] at ho; have n0_ := Aside0.mk (blk_grown (g := gb241) (o := .cells #[.int .i64 0, .int .u64 0, .int .u64 0, .int .u64 0, .int .u64 0, .slice none 0 0] 52 (0, 0)) qd1 hg (Kd.R_away HO_3.out (fun _ hk => hk.2.1))); have n1_ := Aside0.mk (blk_grown (g := gb267) (o := .cells #[.int .i64 x268000_3, .int .u64 x268001_3, .int .u64 x268002_3, .int .u64 x268003_3, .int .u64 x268004_3, .slice Ao95 x268005_3.length co95] 52 (0, 0)) qd4 hg (Kd.R_away HO_3.out (fun _ hk => hk.2.2))); have n2_ := Aside0.mk (IsS76.grown qd2 hg (IsS76.own_ne HI0.out HO_3.out qd16)); have n3_ := Aside0.mk (below_weaken qd3 HL.out hb); have n4_ := Aside0.mk (KeepBut.trans qd0 (KeepBut.of_grown hg g) (Kd.R_base2 HO_3.out)); have n5_ := Aside0.mk (ho); clear BK241; clear BK267; clear HI0; clear HB; clear HK; clear HO_3; clear HO_268005; have BK241 := n0_; have BK267 := n1_; have HI0 := n2_; have HB := n3_; have HK := n4_; have HO295 := n5_; clear n0_ n1_ n2_ n3_ n4_ n5_; clear ho hb hg hat))
               go_roundg k3
               case measure => have := HK1.out; have := HJ4.out; have := HK3.out; omega
               case rel => exact ⟨(y293), (t270), (t271), (t272), (t273), (t274), H', ⟨by have := HK1.out; have := HJ4.out; have := HK3.out; omega⟩, ⟨by (with_reducible repeat (first | apply Kd.R_alloc | apply Kd.R_drewN | apply Kd.R_drew)); exact Kd.R_mono HO295.out (fun _ hk => hk.1)⟩, ⟨by (with_reducible repeat (first | refine blk_drewN ?_ _ | refine blk_drew ?_ | refine blk_alloc ?_ _)); exact BK241.out⟩, ⟨by repeat (first | (with_reducible first | exact HI0.out | apply IsS76.alloc | apply IsS76.drewN | apply IsS76.drew | apply IsS76.set_0 | apply IsS76.set_1 | apply IsS76.set_2 | apply IsS76.set_3 | apply IsS76.set_4 | apply IsS76.far (hne := NB0_241.out) | apply IsS76.far (hne := NB0_267.out)) | exact HI0.out)⟩, ⟨by repeat (first | (with_reducible first | exact HK.out | apply KeepBut.set_ | apply keep_drewN | apply keep_drew | apply keep_alloc | refine keep_far ?_ GW241.out _ | refine keep_far ?_ GW267.out _) | exact HK.out)⟩, ⟨by repeat (first | (with_reducible first | exact HB.out | apply below_alloc | apply pw_below_drewN | apply below_drew1 | refine below_set ?_ (IsS76.ge HI0.out) | refine below_set ?_ GE241.out | refine below_set ?_ GE267.out) | exact HB.out)⟩⟩
              ·rw [if_neg c88] at H
               exact absurd H (by simp)
             ·replace c87 := Bool.eq_false_iff.mpr c87
              subst c87
              have H1 : (if x3_1.length < 2199023255552 then (regex_reader_cat.l0 k3 (x3_1 ++ [(⟨x268000_3, (⟨x268001_3, x268002_3, x268003_3, x268004_3⟩ : S49), x268005_3⟩ : S52)]) t270 t271 t272 t273 t274) else (none)) = some (r1, r2, r3, r4, r5, r6, r7, r8, r9, r10, r11) := by rw [if_neg (show ¬ (false = true) by decide)] at H; exact H
              clear H
              have H := H1
              clear H1
              by_cases c96 : x3_1.length < 2199023255552
              ·rw [if_pos c96] at H
               have LMc96 := Aside0.mk c96
               clear c96
               obtain ⟨y296, hy296⟩ : ∃ y_ : List (S52), y_ = (x3_1 ++ [(⟨x268000_3, (⟨x268001_3, x268002_3, x268003_3, x268004_3⟩ : S49), x268005_3⟩ : S52)]) := ⟨_, rfl⟩
               replace H : (regex_reader_cat.l0 k3 y296 t270 t271 t272 t273 t274) = some (r1, r2, r3, r4, r5, r6, r7, r8, r9, r10, r11) := by first | (rw [hy296]; with_reducible exact H) | (have H2_ := (Option.bind_some _ _).symm.trans H; rw [hy296]; with_reducible exact H2_) | (have H2_ := (Option.bind_some _ _).symm.trans H; with_reducible exact H2_) | with_reducible exact H | (rw [hy296]; exact H) | exact H
               have Ny296 := Aside0.mk hy296
               clear hy296
               have H' := Aside0.mk H
               clear H
               go_wp2_with (first | ((with_reducible refine gate_callee (f := 36) rfl ?_); refine goesL_ (some 42) rfl rfl Try.func36 (by kernel_rfl) rfl #[.pointer (some ⟨g, 0, none⟩)] rfl qd7 ?_; (with_reducible refine (regex_reader_next.calls g x1000_3 x1001_3 x1002_3 x1003_3 x1004_3 t268 false t270 t271 t272 t273 t274 w0 _ ?side1 ?side2 ?side3 A23.out).mono ?_); (case side1 => repeat (first | (with_reducible first | exact HI0.out | apply IsS76.alloc | apply IsS76.drewN | apply IsS76.drew | apply IsS76.set_0 | apply IsS76.set_1 | apply IsS76.set_2 | apply IsS76.set_3 | apply IsS76.set_4 | apply IsS76.far (hne := NB0_241.out) | apply IsS76.far (hne := NB0_267.out)) | exact HI0.out)); (case side2 => repeat (first | (with_reducible first | exact HB.out | apply below_alloc | apply pw_below_drewN | apply below_drew1 | refine below_set ?_ (IsS76.ge HI0.out) | refine below_set ?_ GE241.out | refine below_set ?_ GE267.out) | exact HB.out)); (case side3 => exact hT); rintro e w97 ⟨rfl, hi, hb, hk⟩; refine ⟨_, rfl, ?_⟩; have n0_ := Aside0.mk (Kd.R_mono (Kd.R_keep (IsS76.apart (show IsS76 w0 _ g x1000_3 x1001_3 x1002_3 x1003_3 x1004_3 from by repeat (first | (with_reducible first | exact HI0.out | apply IsS76.alloc | apply IsS76.drewN | apply IsS76.drew | apply IsS76.set_0 | apply IsS76.set_1 | apply IsS76.set_2 | apply IsS76.set_3 | apply IsS76.set_4 | apply IsS76.far (hne := NB0_241.out) | apply IsS76.far (hne := NB0_267.out)) | exact HI0.out)) qd5 qd16) hk (fun _ h => h.2)) (fun _ h => h.1)); have n1_ := Aside0.mk (Kd.R_mono (Kd.R_keep (IsS76.apart (show IsS76 w0 _ g x1000_3 x1001_3 x1002_3 x1003_3 x1004_3 from by repeat (first | (with_reducible first | exact HI0.out | apply IsS76.alloc | apply IsS76.drewN | apply IsS76.drew | apply IsS76.set_0 | apply IsS76.set_1 | apply IsS76.set_2 | apply IsS76.set_3 | apply IsS76.set_4 | apply IsS76.far (hne := NB0_241.out) | apply IsS76.far (hne := NB0_267.out)) | exact HI0.out)) qd6 qd16) hk (fun _ h => h.2)) (fun _ h => h.1)); have n2_ := Aside0.mk (KeepBut.blk hk (g' := gb241) (o := .cells #[.int .i64 0, .int .u64 0, .int .u64 0, .int .u64 0, .int .u64 0, .slice none 0 0] 52 (0, 0)) qd1 NB241_0.out (by simp)); have n3_ := Aside0.mk (KeepBut.blk hk (g' := gb267) (o := .cells #[.int .i64 x268000_3, .int .u64 x268001_3, .int .u64 x268002_3, .int .u64 x268003_3, .int .u64 x268004_3, u268005] 52 (0, 0)) qd4 NB267_0.out (by simp)); have n4_ := Aside0.mk (KeepBut.trans qd0 hk (.inl rfl)); have n5_ := Aside0.mk (hb); have n6_ := Aside0.mk (hi); clear HO_3; clear HO_268005; clear BK241; clear BK267; clear HK; clear HB; clear HI0; have HO_3 := n0_; have HO_268005 := n1_; have BK241 := n2_; have BK267 := n3_; have HK := n4_; have HB := n5_; have HI0 := n6_; clear n0_ n1_ n2_ n3_ n4_ n5_ n6_; (try clear hb); (try clear hb2); (try clear hk); (try clear hi)) | ((with_reducible refine gate_dst (N := 48) rfl ?_); refine look_event (v := .int .i64 0) rfl qd14 ?_; intro w98 hb; have n0_ := Aside0.mk (Kd.R_below qd5 hb); have n1_ := Aside0.mk (Kd.R_below qd6 hb); have n2_ := Aside0.mk (blk_below (g := gb241) (o := .cells #[.int .i64 0, .int .u64 0, .int .u64 0, .int .u64 0, .int .u64 0, .slice none 0 0] 52 (0, 0)) qd1 hb); have n3_ := Aside0.mk (blk_below (g := gb267) (o := .cells #[.int .i64 x268000_3, .int .u64 x268001_3, .int .u64 x268002_3, .int .u64 x268003_3, .int .u64 x268004_3, u268005] 52 (0, 0)) qd4 hb); have n4_ := Aside0.mk (IsS76.below qd2 hb); have n5_ := Aside0.mk (KeepBut.trans qd0 (KeepBut.of_below hb g none) (.inl rfl)); have n6_ := Aside0.mk (below_step qd3 hb); clear HO_3; clear HO_268005; clear BK241; clear BK267; clear HI0; clear HK; clear HB; have HO_3 := n0_; have HO_268005 := n1_; have BK241 := n2_; have BK267 := n3_; have HI0 := n4_; have HK := n5_; have HB := n6_; clear n0_ n1_ n2_ n3_ n4_ n5_ n6_; clear hb; have hnb99 := NB267_241.out; have hnc99 := NB241_267.out; have hnb100 := NB267_0.out; have hnc100 := NB0_267.out; have hcz101_0 : w98.cell? ⟨gb267, 0, none⟩ = some (.int .i64 x268000_3) := (blk_cell BK267.out 0).trans rfl; have hcz101_1 : w98.cell? ⟨gb267, 1, none⟩ = some (.int .u64 x268001_3) := (blk_cell BK267.out 1).trans rfl; have hcz101_2 : w98.cell? ⟨gb267, 2, none⟩ = some (.int .u64 x268002_3) := (blk_cell BK267.out 2).trans rfl; have hcz101_3 : w98.cell? ⟨gb267, 3, none⟩ = some (.int .u64 x268003_3) := (blk_cell BK267.out 3).trans rfl; have hcz101_4 : w98.cell? ⟨gb267, 4, none⟩ = some (.int .u64 x268004_3) := (blk_cell BK267.out 4).trans rfl; have hcz101_5 : w98.cell? ⟨gb267, 5, none⟩ = some (u268005) := (blk_cell BK267.out 5).trans rfl; have hfz101_0 := blk_frozen BK267.out 0; have hfz101_1 := blk_frozen BK267.out 1; have hfz101_2 := blk_frozen BK267.out 2; have hfz101_3 := blk_frozen BK267.out 3; have hfz101_4 := blk_frozen BK267.out 4; have hfz101_5 := blk_frozen BK267.out 5; obtain ⟨Ao103, co103, eo103⟩ := Kd.R_slice HO_268005.out; subst eo103) | ((with_reducible refine gate_builtin (b := .append) (xs := #[.tmp 66, .tmp 68]) rfl ?_); at_builtin; refine Kd.R_append k52 w.heap.size rfl (.tmp 66) (.tmp 68) 50 52 (.agg #[(.int .i64 0), (.int .u64 0), (.int .u64 0), (.int .u64 0), (.int .u64 0), (.slice none 0 0)]) 64 rfl Try.underlying50 info52 rfl qd16 (by omega) u3 x3_1 (⟨x268000_3, (⟨x268001_3, x268002_3, x268003_3, x268004_3⟩ : S49), x268005_3⟩ : S52) [.int .i64 x268000_3, .int .u64 x268001_3, .int .u64 x268002_3, .int .u64 x268003_3, .int .u64 x268004_3, .slice Ao103 x268005_3.length co103] (fun k_ => k_ ≠ gb241 ∧ k_ ≠ gb267) (fun k_ => ((fun k_ => k_ ≠ gb241 ∧ k_ ≠ gb267)) k_ ∧ some k_ ≠ (u3 : Value).ownBlock) rfl rfl ?aP (fun _ hk => hk) ?aF ?aO (Below.refl _ _) ?aS ?aL ?_; (case aP => exact k52_mkM _ _ _ (⟨x268000_3, (⟨x268001_3, x268002_3, x268003_3, x268004_3⟩ : S49), x268005_3⟩ : S52) (Kd.R_mono (HO_268005.out) (fun k_ hk => ⟨⟨hk.2.1, hk.2.2⟩, hk.1⟩))); (case aF => exact (fun k_ hk => ⟨Kd.freshB (g := gb241) (o := .cells #[.int .i64 0, .int .u64 0, .int .u64 0, .int .u64 0, .int .u64 0, .slice none 0 0] 52 (0, 0)) qd1 k_ hk, Kd.freshB (g := gb267) (o := .cells #[.int .i64 x268000_3, .int .u64 x268001_3, .int .u64 x268002_3, .int .u64 x268003_3, .int .u64 x268004_3, .slice Ao103 x268005_3.length co103] 52 (0, 0)) qd4 k_ hk⟩)); (case aO => exact qd12); (case aS => exact (keep_size (w := w) (g := g) (row := none) qd0)); (case aL => have := LMc96.out; omega); intro v297 w102 ho hb hg hat; rw [← Ny296.out] at ho; have n0_ := Aside0.mk (blk_grown (g := gb241) (o := .cells #[.int .i64 0, .int .u64 0, .int .u64 0, .int .u64 0, .int .u64 0, .slice none 0 0] 52 (0, 0)) qd1 hg (Kd.R_away HO_3.out (fun _ hk => hk.2.1))); have n1_ := Aside0.mk (blk_grown (g := gb267) (o := .cells #[.int .i64 x268000_3, .int .u64 x268001_3, .int .u64 x268002_3, .int .u64 x268003_3, .int .u64 x268004_3, .slice Ao103 x268005_3.length co103] 52 (0, 0)) qd4 hg (Kd.R_away HO_3.out (fun _ hk => hk.2.2))); have n2_ := Aside0.mk (IsS76.grown qd2 hg (IsS76.own_ne HI0.out HO_3.out qd16)); have n3_ := Aside0.mk (below_weaken qd3 HL.out hb); have n4_ := Aside0.mk (KeepBut.trans qd0 (KeepBut.of_grown hg g) (Kd.R_base2 HO_3.out)); have n5_ := Aside0.mk (ho); clear BK241; clear BK267; clear HI0; clear HB; clear HK; clear HO_3; clear HO_268005; have BK241 := n0_; have BK267 := n1_; have HI0 := n2_; have HB := n3_; have HK := n4_; have HO298 := n5_; clear n0_ n1_ n2_ n3_ n4_ n5_; clear ho hb hg hat))
               go_roundg k3
               case measure => have := HK1.out; have := HJ4.out; have := HK3.out; omega
               case rel => exact ⟨(y296), (t270), (t271), (t272), (t273), (t274), H', ⟨by have := HK1.out; have := HJ4.out; have := HK3.out; omega⟩, ⟨by (with_reducible repeat (first | apply Kd.R_alloc | apply Kd.R_drewN | apply Kd.R_drew)); exact Kd.R_mono HO298.out (fun _ hk => hk.1)⟩, ⟨by (with_reducible repeat (first | refine blk_drewN ?_ _ | refine blk_drew ?_ | refine blk_alloc ?_ _)); exact BK241.out⟩, ⟨by repeat (first | (with_reducible first | exact HI0.out | apply IsS76.alloc | apply IsS76.drewN | apply IsS76.drew | apply IsS76.set_0 | apply IsS76.set_1 | apply IsS76.set_2 | apply IsS76.set_3 | apply IsS76.set_4 | apply IsS76.far (hne := NB0_241.out) | apply IsS76.far (hne := NB0_267.out)) | exact HI0.out)⟩, ⟨by repeat (first | (with_reducible first | exact HK.out | apply KeepBut.set_ | apply keep_drewN | apply keep_drew | apply keep_alloc | refine keep_far ?_ GW241.out _ | refine keep_far ?_ GW267.out _) | exact HK.out)⟩, ⟨by repeat (first | (with_reducible first | exact HB.out | apply below_alloc | apply pw_below_drewN | apply below_drew1 | refine below_set ?_ (IsS76.ge HI0.out) | refine below_set ?_ GE241.out | refine below_set ?_ GE267.out) | exact HB.out)⟩⟩
              ·rw [if_neg c96] at H
               exact absurd H (by simp)
 case rest =>
  clear HC2
  try clear c1
  try clear c2
  try clear p2
  try clear c3
  try clear c4
  try clear c5
  try clear c6
  try clear p6
  try clear c7
  try clear c8
  try clear c8b0
  try clear c8b1
  try clear c9
  try clear c9b0
  try clear c9b1
  try clear c10
  try clear c11
  try clear c12
  try clear c12b0
  try clear c12b1
  try clear c19
  try clear c20
  try clear c24
  try clear c24b0
  try clear c24b1
  try clear c25
  try clear c29
  try clear c30
  try clear c35
  try clear c36
  try clear c37
  try clear c40
  try clear c41
  try clear c42
  try clear c45
  try clear c45b0
  try clear c45b1
  try clear c46
  try clear c50
  try clear c51
  try clear c58
  try clear c61
  try clear c62
  try clear p64
  try clear c66
  try clear c66b0
  try clear c66b1
  try clear c67
  try clear c71
  try clear c72
  try clear c79
  try clear c82
  try clear c83
  try clear c87
  try clear c88
  try clear c91
  try clear c92
  try clear c96
  try clear c99
  try clear c100
  try clear hcz101_0
  try clear hcz101_1
  try clear hcz101_2
  try clear hcz101_3
  try clear hcz101_4
  try clear hcz101_5
  try clear hcz10_0
  try clear hcz10_1
  try clear hcz10_2
  try clear hcz10_3
  try clear hcz10_4
  try clear hcz14_0
  try clear hcz14_1
  try clear hcz14_2
  try clear hcz14_3
  try clear hcz14_4
  try clear hcz21_0
  try clear hcz21_1
  try clear hcz21_2
  try clear hcz21_3
  try clear hcz21_4
  try clear hcz21_5
  try clear hcz28_0
  try clear hcz28_1
  try clear hcz28_2
  try clear hcz28_3
  try clear hcz28_4
  try clear hcz31_0
  try clear hcz31_1
  try clear hcz31_2
  try clear hcz31_3
  try clear hcz31_4
  try clear hcz31_5
  try clear hcz36_0
  try clear hcz36_1
  try clear hcz36_2
  try clear hcz36_3
  try clear hcz36_4
  try clear hcz36_5
  try clear hcz42_0
  try clear hcz42_1
  try clear hcz42_2
  try clear hcz42_3
  try clear hcz42_4
  try clear hcz42_5
  try clear hcz49_0
  try clear hcz49_1
  try clear hcz49_2
  try clear hcz49_3
  try clear hcz49_4
  try clear hcz52_0
  try clear hcz52_1
  try clear hcz52_2
  try clear hcz52_3
  try clear hcz52_4
  try clear hcz52_5
  try clear hcz57_0
  try clear hcz57_1
  try clear hcz57_2
  try clear hcz57_3
  try clear hcz57_4
  try clear hcz57_5
  try clear hcz63_0
  try clear hcz63_1
  try clear hcz63_2
  try clear hcz63_3
  try clear hcz63_4
  try clear hcz63_5
  try clear hcz70_0
  try clear hcz70_1
  try clear hcz70_2
  try clear hcz70_3
  try clear hcz70_4
  try clear hcz73_0
  try clear hcz73_1
  try clear hcz73_2
  try clear hcz73_3
  try clear hcz73_4
  try clear hcz73_5
  try clear hcz78_0
  try clear hcz78_1
  try clear hcz78_2
  try clear hcz78_3
  try clear hcz78_4
  try clear hcz78_5
  try clear hcz84_0
  try clear hcz84_1
  try clear hcz84_2
  try clear hcz84_3
  try clear hcz84_4
  try clear hcz84_5
  try clear hcz93_0
  try clear hcz93_1
  try clear hcz93_2
  try clear hcz93_3
  try clear hcz93_4
  try clear hcz93_5
  try clear hfz101_0
  try clear hfz101_1
  try clear hfz101_2
  try clear hfz101_3
  try clear hfz101_4
  try clear hfz101_5
  try clear hfz10_0
  try clear hfz10_1
  try clear hfz10_2
  try clear hfz10_3
  try clear hfz10_4
  try clear hfz14_0
  try clear hfz14_1
  try clear hfz14_2
  try clear hfz14_3
  try clear hfz14_4
  try clear hfz21_0
  try clear hfz21_1
  try clear hfz21_2
  try clear hfz21_3
  try clear hfz21_4
  try clear hfz21_5
  try clear hfz28_0
  try clear hfz28_1
  try clear hfz28_2
  try clear hfz28_3
  try clear hfz28_4
  try clear hfz31_0
  try clear hfz31_1
  try clear hfz31_2
  try clear hfz31_3
  try clear hfz31_4
  try clear hfz31_5
  try clear hfz36_0
  try clear hfz36_1
  try clear hfz36_2
  try clear hfz36_3
  try clear hfz36_4
  try clear hfz36_5
  try clear hfz42_0
  try clear hfz42_1
  try clear hfz42_2
  try clear hfz42_3
  try clear hfz42_4
  try clear hfz42_5
  try clear hfz49_0
  try clear hfz49_1
  try clear hfz49_2
  try clear hfz49_3
  try clear hfz49_4
  try clear hfz52_0
  try clear hfz52_1
  try clear hfz52_2
  try clear hfz52_3
  try clear hfz52_4
  try clear hfz52_5
  try clear hfz57_0
  try clear hfz57_1
  try clear hfz57_2
  try clear hfz57_3
  try clear hfz57_4
  try clear hfz57_5
  try clear hfz63_0
  try clear hfz63_1
  try clear hfz63_2
  try clear hfz63_3
  try clear hfz63_4
  try clear hfz63_5
  try clear hfz70_0
  try clear hfz70_1
  try clear hfz70_2
  try clear hfz70_3
  try clear hfz70_4
  try clear hfz73_0
  try clear hfz73_1
  try clear hfz73_2
  try clear hfz73_3
  try clear hfz73_4
  try clear hfz73_5
  try clear hfz78_0
  try clear hfz78_1
  try clear hfz78_2
  try clear hfz78_3
  try clear hfz78_4
  try clear hfz78_5
  try clear hfz84_0
  try clear hfz84_1
  try clear hfz84_2
  try clear hfz84_3
  try clear hfz84_4
  try clear hfz84_5
  try clear hfz93_0
  try clear hfz93_1
  try clear hfz93_2
  try clear hfz93_3
  try clear hfz93_4
  try clear hfz93_5
  try clear p2
  try clear p6
  obtain ⟨kq, x3_1, x1000_1, x1001_1, x1002_1, x1003_1, x1004_1, HA, HJ1, HO_3, BK241, HI0, HK, HB⟩ := hcut
  cases kq with
  | zero => exact absurd HA.out (by simp [regex_reader_cat.j3])
  | succ kj1 =>
   have H := HA.out
   clear HA
   simp only [regex_reader_cat.j3] at H
   by_cases c104 : (x3_1.length : Int) = 0
   ·rw [if_pos c104] at H
    have c104b0 : ((x3_1.length : Int) == 0) = true := beq_iff_eq.mpr c104
    have c104b1 : ((x3_1.length : Int) != 0) = false := bne_eq_false_iff_eq.mpr c104
    clear c104
    simp only [Option.some.injEq, Prod.mk.injEq] at H
    obtain ⟨rfl, rfl, rfl, rfl, rfl, rfl, rfl, rfl, rfl, rfl, rfl⟩ := H
    obtain ⟨Ao105, co105, eo105⟩ := Kd.R_slice HO_3.out
    subst eo105
    have hnb106 := NB241_0.out
    have hnc106 := NB0_241.out
    have hcz107_0 : wc.cell? ⟨gb241, 0, none⟩ = some (.int .i64 0) := (blk_cell BK241.out 0).trans rfl
    have hcz107_1 : wc.cell? ⟨gb241, 1, none⟩ = some (.int .u64 0) := (blk_cell BK241.out 1).trans rfl
    have hcz107_2 : wc.cell? ⟨gb241, 2, none⟩ = some (.int .u64 0) := (blk_cell BK241.out 2).trans rfl
    have hcz107_3 : wc.cell? ⟨gb241, 3, none⟩ = some (.int .u64 0) := (blk_cell BK241.out 3).trans rfl
    have hcz107_4 : wc.cell? ⟨gb241, 4, none⟩ = some (.int .u64 0) := (blk_cell BK241.out 4).trans rfl
    have hcz107_5 : wc.cell? ⟨gb241, 5, none⟩ = some (.slice none 0 0) := (blk_cell BK241.out 5).trans rfl
    have hfz107_0 := blk_frozen BK241.out 0
    have hfz107_1 := blk_frozen BK241.out 1
    have hfz107_2 := blk_frozen BK241.out 2
    have hfz107_3 := blk_frozen BK241.out 3
    have hfz107_4 := blk_frozen BK241.out 4
    have hfz107_5 := blk_frozen BK241.out 5
    go_wp2
    rw [Exit.noGoto_ret]
    refine bodyPost_ret (results_cell_row rfl _ _ gb241 52 #[.int .i64 0, .int .u64 0, .int .u64 0, .int .u64 0, .int .u64 0, .slice none 0 0] (0, 0) _ rfl (by (with_reducible repeat (first | refine blk_drewN ?_ _ | refine blk_drew ?_ | refine blk_alloc ?_ _)); refine blk_put (cs := #[.int .i64 0, .int .u64 0, .int .u64 0, .int .u64 0, .int .u64 0, .slice none 0 0]) ?_ 5 _ rfl; (with_reducible repeat (first | refine blk_drewN ?_ _ | refine blk_drew ?_ | refine blk_alloc ?_ _)); refine blk_put (cs := #[.int .i64 0, .int .u64 0, .int .u64 0, .int .u64 0, .int .u64 0, .slice none 0 0]) ?_ 4 _ rfl; (with_reducible repeat (first | refine blk_drewN ?_ _ | refine blk_drew ?_ | refine blk_alloc ?_ _)); refine blk_put (cs := #[.int .i64 0, .int .u64 0, .int .u64 0, .int .u64 0, .int .u64 0, .slice none 0 0]) ?_ 3 _ rfl; (with_reducible repeat (first | refine blk_drewN ?_ _ | refine blk_drew ?_ | refine blk_alloc ?_ _)); refine blk_put (cs := #[.int .i64 0, .int .u64 0, .int .u64 0, .int .u64 0, .int .u64 0, .slice none 0 0]) ?_ 2 _ rfl; (with_reducible repeat (first | refine blk_drewN ?_ _ | refine blk_drew ?_ | refine blk_alloc ?_ _)); refine blk_put (cs := #[.int .i64 0, .int .u64 0, .int .u64 0, .int .u64 0, .int .u64 0, .slice none 0 0]) ?_ 1 _ rfl; (with_reducible repeat (first | refine blk_drewN ?_ _ | refine blk_drew ?_ | refine blk_alloc ?_ _)); refine blk_put (cs := #[.int .i64 0, .int .u64 0, .int .u64 0, .int .u64 0, .int .u64 0, .slice none 0 0]) ?_ 0 _ rfl; (with_reducible repeat (first | refine blk_drewN ?_ _ | refine blk_drew ?_ | refine blk_alloc ?_ _)); exact BK241.out) Try.underlying52 rfl (by kernel_rfl)) rfl ?_
    exact ⟨_, by first | rfl | (simp [errW_none, errW_some] <;> rfl) | (simp [errW_none, errW_some] <;> first | rfl | exact isEmpty_bne _) | (simp [*, errW_none, errW_some] <;> rfl), by first | exact Kd.R_nil _ _ _ _ _ | exact Kd.N_nil _ _ _ _ _ | exact Kd.V_nil _ _ _ _ _ | exact Kd.Q_nil _ _ _ _ _ | exact Kd.S_nil _ _ _ _ _, by repeat (first | (with_reducible first | exact HI0.out | apply IsS76.alloc | apply IsS76.drewN | apply IsS76.drew | apply IsS76.set_0 | apply IsS76.set_1 | apply IsS76.set_2 | apply IsS76.set_3 | apply IsS76.set_4 | apply IsS76.far (hne := NB0_241.out)) | exact HI0.out), by repeat (first | (with_reducible first | exact HB.out | apply below_alloc | apply pw_below_drewN | apply below_drew1 | refine below_set ?_ (IsS76.ge HI0.out) | refine below_set ?_ GE241.out) | exact HB.out), by repeat (first | (with_reducible first | exact HK.out | apply KeepBut.set_ | apply keep_drewN | apply keep_drew | apply keep_alloc | refine keep_far ?_ GW241.out _) | exact HK.out)⟩
   ·rw [if_neg c104] at H
    have c104b0 : ((x3_1.length : Int) == 0) = false := beq_eq_false_iff_ne.mpr c104
    have c104b1 : ((x3_1.length : Int) != 0) = true := bne_iff_ne.mpr c104
    have c104b2 : ¬ (x3_1 = []) := fun h_ => c104 (by rw [h_]; rfl)
    by_cases c108 : (x3_1.length : Int) = 1
    ·rw [if_pos c108] at H
     have c108b0 : ((x3_1.length : Int) == 1) = true := beq_iff_eq.mpr c108
     have c108b1 : ((x3_1.length : Int) != 1) = false := bne_eq_false_iff_eq.mpr c108
     clear c108
     by_cases c109 : 0 < (x3_1.length : Int)
     ·rw [if_pos c109] at H
      have c109b0 : decide (0 < (x3_1.length : Int)) = true := decide_eq_true c109
      have c109b1 : decide (0 < x3_1.length) = true := decide_eq_true (by omega)
      clear c109
      simp only [Option.some.injEq, Prod.mk.injEq] at H
      obtain ⟨rfl, rfl, rfl, rfl, rfl, rfl, rfl, rfl, rfl, rfl, rfl⟩ := H
      obtain ⟨Ao110, co110, eo110⟩ := Kd.R_slice HO_3.out
      subst eo110
      have p299 : 0 ≤ (0 : Int) := (by omega)
      have qd299 : 0 < (x3_1.length : Int) := of_decide_eq_true (by first | (with_reducible assumption) | assumption)
      obtain ⟨ad299, A299_5, c299_5, e299, hx299_0, hx299_1, hx299_2, hx299_3, hx299_4, hx299_5, hl299_5, hi299_5⟩ := at_T52 (Kd.R_reads' HO_3.out).2.2 0 p299 qd299
      cases e299
      obtain ⟨ce299, hce299, hMe299, hcc299⟩ := Kd.R_get HO_3.out z52 0 p299 (by first | exact qd299 | exact of_decide_eq_true (by first | (with_reducible assumption) | assumption) | (have e_ := (Kd.R_reads' HO_3.out).1; omega))
      obtain ⟨ve299_5, rfl, ge299_5⟩ := k52_openM hMe299
      have hv299_5 := hcc299 5 _ rfl
      rw [add_field _ _ 5 (by omega)] at hv299_5
      replace hv299_5 := Option.some.inj (hv299_5.symm.trans hx299_5)
      rw [hv299_5] at ge299_5
      have HL299_5 := Aside0.mk (show Kd.R k52 52 _ _ _ _ ((rd_T52 x3_1 0).f2) from ge299_5)
      clear hv299_5 ge299_5
      clear hcc299 hce299
      have qi299 : (0 < x3_1.length) = True := eq_true (by omega)
      (try rw [show ((0 : Int)).toNat = 0 from rfl] at hx299_0)
      (try rw [show 0 * 6 = 0 from rfl] at hx299_0)
      (try rw [Addr.add_zero'] at hx299_0)
      (try rw [show ((0 : Int)).toNat = 0 from rfl] at hx299_1)
      (try rw [show 0 * 6 = 0 from rfl] at hx299_1)
      (try rw [Addr.add_zero'] at hx299_1)
      (try rw [show ((0 : Int)).toNat = 0 from rfl] at hx299_2)
      (try rw [show 0 * 6 = 0 from rfl] at hx299_2)
      (try rw [Addr.add_zero'] at hx299_2)
      (try rw [show ((0 : Int)).toNat = 0 from rfl] at hx299_3)
      (try rw [show 0 * 6 = 0 from rfl] at hx299_3)
      (try rw [Addr.add_zero'] at hx299_3)
      (try rw [show ((0 : Int)).toNat = 0 from rfl] at hx299_4)
      (try rw [show 0 * 6 = 0 from rfl] at hx299_4)
      (try rw [Addr.add_zero'] at hx299_4)
      (try rw [show ((0 : Int)).toNat = 0 from rfl] at hx299_5)
      (try rw [show 0 * 6 = 0 from rfl] at hx299_5)
      (try rw [Addr.add_zero'] at hx299_5)
      have HR299_5 := Aside0.mk hi299_5
      have HC299_5 := Aside0.mk hl299_5
      clear hi299_5 hl299_5
      replace p299 := eq_true p299
      replace qd299 := eq_true qd299
      have hnb111 := NB241_0.out
      have hnc111 := NB0_241.out
      have hcz112_0 : wc.cell? ⟨gb241, 0, none⟩ = some (.int .i64 0) := (blk_cell BK241.out 0).trans rfl
      have hcz112_1 : wc.cell? ⟨gb241, 1, none⟩ = some (.int .u64 0) := (blk_cell BK241.out 1).trans rfl
      have hcz112_2 : wc.cell? ⟨gb241, 2, none⟩ = some (.int .u64 0) := (blk_cell BK241.out 2).trans rfl
      have hcz112_3 : wc.cell? ⟨gb241, 3, none⟩ = some (.int .u64 0) := (blk_cell BK241.out 3).trans rfl
      have hcz112_4 : wc.cell? ⟨gb241, 4, none⟩ = some (.int .u64 0) := (blk_cell BK241.out 4).trans rfl
      have hcz112_5 : wc.cell? ⟨gb241, 5, none⟩ = some (.slice none 0 0) := (blk_cell BK241.out 5).trans rfl
      have hfz112_0 := blk_frozen BK241.out 0
      have hfz112_1 := blk_frozen BK241.out 1
      have hfz112_2 := blk_frozen BK241.out 2
      have hfz112_3 := blk_frozen BK241.out 3
      have hfz112_4 := blk_frozen BK241.out 4
      have hfz112_5 := blk_frozen BK241.out 5
      go_wp2
      rw [Exit.noGoto_ret]
      refine bodyPost_ret (results_cell_row rfl _ _ gb241 52 #[.int .i64 ((rd_T52 x3_1 0).f0), .int .u64 ((rd_T52 x3_1 0).f1.f0), .int .u64 ((rd_T52 x3_1 0).f1.f1), .int .u64 ((rd_T52 x3_1 0).f1.f2), .int .u64 ((rd_T52 x3_1 0).f1.f3), .slice A299_5 ((rd_T52 x3_1 0).f2).length c299_5] (0, 0) _ rfl (by (with_reducible repeat (first | refine blk_drewN ?_ _ | refine blk_drew ?_ | refine blk_alloc ?_ _)); refine blk_put (cs := #[.int .i64 ((rd_T52 x3_1 0).f0), .int .u64 ((rd_T52 x3_1 0).f1.f0), .int .u64 ((rd_T52 x3_1 0).f1.f1), .int .u64 ((rd_T52 x3_1 0).f1.f2), .int .u64 ((rd_T52 x3_1 0).f1.f3), .slice none 0 0]) ?_ 5 _ rfl; (with_reducible repeat (first | refine blk_drewN ?_ _ | refine blk_drew ?_ | refine blk_alloc ?_ _)); refine blk_put (cs := #[.int .i64 ((rd_T52 x3_1 0).f0), .int .u64 ((rd_T52 x3_1 0).f1.f0), .int .u64 ((rd_T52 x3_1 0).f1.f1), .int .u64 ((rd_T52 x3_1 0).f1.f2), .int .u64 0, .slice none 0 0]) ?_ 4 _ rfl; (with_reducible repeat (first | refine blk_drewN ?_ _ | refine blk_drew ?_ | refine blk_alloc ?_ _)); refine blk_put (cs := #[.int .i64 ((rd_T52 x3_1 0).f0), .int .u64 ((rd_T52 x3_1 0).f1.f0), .int .u64 ((rd_T52 x3_1 0).f1.f1), .int .u64 0, .int .u64 0, .slice none 0 0]) ?_ 3 _ rfl; (with_reducible repeat (first | refine blk_drewN ?_ _ | refine blk_drew ?_ | refine blk_alloc ?_ _)); refine blk_put (cs := #[.int .i64 ((rd_T52 x3_1 0).f0), .int .u64 ((rd_T52 x3_1 0).f1.f0), .int .u64 0, .int .u64 0, .int .u64 0, .slice none 0 0]) ?_ 2 _ rfl; (with_reducible repeat (first | refine blk_drewN ?_ _ | refine blk_drew ?_ | refine blk_alloc ?_ _)); refine blk_put (cs := #[.int .i64 ((rd_T52 x3_1 0).f0), .int .u64 0, .int .u64 0, .int .u64 0, .int .u64 0, .slice none 0 0]) ?_ 1 _ rfl; (with_reducible repeat (first | refine blk_drewN ?_ _ | refine blk_drew ?_ | refine blk_alloc ?_ _)); refine blk_put (cs := #[.int .i64 0, .int .u64 0, .int .u64 0, .int .u64 0, .int .u64 0, .slice none 0 0]) ?_ 0 _ rfl; (with_reducible repeat (first | refine blk_drewN ?_ _ | refine blk_drew ?_ | refine blk_alloc ?_ _)); exact BK241.out) Try.underlying52 rfl (by kernel_rfl)) rfl ?_
      exact ⟨_, by first | rfl | (simp [errW_none, errW_some] <;> rfl) | (simp [errW_none, errW_some] <;> first | rfl | exact isEmpty_bne _) | (simp [*, errW_none, errW_some] <;> rfl), by (with_reducible repeat (first | apply Kd.R_alloc | apply Kd.R_drewN | apply Kd.R_drew)); exact Kd.R_mono (Kd.R_far (p := ⟨gb241, 5, none⟩) (Kd.R_far (p := ⟨gb241, 4, none⟩) (Kd.R_far (p := ⟨gb241, 3, none⟩) (Kd.R_far (p := ⟨gb241, 2, none⟩) (Kd.R_far (p := ⟨gb241, 1, none⟩) (Kd.R_far (p := ⟨gb241, 0, none⟩) (Kd.R_mono HL299_5.out (fun k_ hk => (⟨hk, hk.1⟩ : _ ∧ k_ ≠ gb241))) (fun _ hk => hk.2) (.int .i64 ((rd_T52 x3_1 0).f0))) (fun _ hk => hk.2) (.int .u64 ((rd_T52 x3_1 0).f1.f0))) (fun _ hk => hk.2) (.int .u64 ((rd_T52 x3_1 0).f1.f1))) (fun _ hk => hk.2) (.int .u64 ((rd_T52 x3_1 0).f1.f2))) (fun _ hk => hk.2) (.int .u64 ((rd_T52 x3_1 0).f1.f3))) (fun _ hk => hk.2) (.slice A299_5 ((rd_T52 x3_1 0).f2).length c299_5)) (fun _ hk => trivial), by repeat (first | (with_reducible first | exact HI0.out | apply IsS76.alloc | apply IsS76.drewN | apply IsS76.drew | apply IsS76.set_0 | apply IsS76.set_1 | apply IsS76.set_2 | apply IsS76.set_3 | apply IsS76.set_4 | apply IsS76.far (hne := NB0_241.out)) | exact HI0.out), by repeat (first | (with_reducible first | exact HB.out | apply below_alloc | apply pw_below_drewN | apply below_drew1 | refine below_set ?_ (IsS76.ge HI0.out) | refine below_set ?_ GE241.out) | exact HB.out), by repeat (first | (with_reducible first | exact HK.out | apply KeepBut.set_ | apply keep_drewN | apply keep_drew | apply keep_alloc | refine keep_far ?_ GW241.out _) | exact HK.out)⟩
     ·rw [if_neg c109] at H
      exact absurd H (by simp)
    ·rw [if_neg c108] at H
     have c108b0 : ((x3_1.length : Int) == 1) = false := beq_eq_false_iff_ne.mpr c108
     have c108b1 : ((x3_1.length : Int) != 1) = true := bne_iff_ne.mpr c108
     simp only [Option.some.injEq, Prod.mk.injEq] at H
     obtain ⟨rfl, rfl, rfl, rfl, rfl, rfl, rfl, rfl, rfl, rfl, rfl⟩ := H
     obtain ⟨Ao113, co113, eo113⟩ := Kd.R_slice HO_3.out
     subst eo113
     have hnb114 := NB241_0.out
     have hnc114 := NB0_241.out
     have hcz115_0 : wc.cell? ⟨gb241, 0, none⟩ = some (.int .i64 0) := (blk_cell BK241.out 0).trans rfl
     have hcz115_1 : wc.cell? ⟨gb241, 1, none⟩ = some (.int .u64 0) := (blk_cell BK241.out 1).trans rfl
     have hcz115_2 : wc.cell? ⟨gb241, 2, none⟩ = some (.int .u64 0) := (blk_cell BK241.out 2).trans rfl
     have hcz115_3 : wc.cell? ⟨gb241, 3, none⟩ = some (.int .u64 0) := (blk_cell BK241.out 3).trans rfl
     have hcz115_4 : wc.cell? ⟨gb241, 4, none⟩ = some (.int .u64 0) := (blk_cell BK241.out 4).trans rfl
     have hcz115_5 : wc.cell? ⟨gb241, 5, none⟩ = some (.slice none 0 0) := (blk_cell BK241.out 5).trans rfl
     have hfz115_0 := blk_frozen BK241.out 0
     have hfz115_1 := blk_frozen BK241.out 1
     have hfz115_2 := blk_frozen BK241.out 2
     have hfz115_3 := blk_frozen BK241.out 3
     have hfz115_4 := blk_frozen BK241.out 4
     have hfz115_5 := blk_frozen BK241.out 5
     go_wp2
     rw [Exit.noGoto_ret]
     refine bodyPost_ret (results_cell_row rfl _ _ gb241 52 #[.int .i64 2, .int .u64 0, .int .u64 0, .int .u64 0, .int .u64 0, .slice Ao113 x3_1.length co113] (0, 0) _ rfl (by (with_reducible repeat (first | refine blk_drewN ?_ _ | refine blk_drew ?_ | refine blk_alloc ?_ _)); refine blk_put (cs := #[.int .i64 2, .int .u64 0, .int .u64 0, .int .u64 0, .int .u64 0, .slice none 0 0]) ?_ 5 _ rfl; (with_reducible repeat (first | refine blk_drewN ?_ _ | refine blk_drew ?_ | refine blk_alloc ?_ _)); refine blk_put (cs := #[.int .i64 2, .int .u64 0, .int .u64 0, .int .u64 0, .int .u64 0, .slice none 0 0]) ?_ 4 _ rfl; (with_reducible repeat (first | refine blk_drewN ?_ _ | refine blk_drew ?_ | refine blk_alloc ?_ _)); refine blk_put (cs := #[.int .i64 2, .int .u64 0, .int .u64 0, .int .u64 0, .int .u64 0, .slice none 0 0]) ?_ 3 _ rfl; (with_reducible repeat (first | refine blk_drewN ?_ _ | refine blk_drew ?_ | refine blk_alloc ?_ _)); refine blk_put (cs := #[.int .i64 2, .int .u64 0, .int .u64 0, .int .u64 0, .int .u64 0, .slice none 0 0]) ?_ 2 _ rfl; (with_reducible repeat (first | refine blk_drewN ?_ _ | refine blk_drew ?_ | refine blk_alloc ?_ _)); refine blk_put (cs := #[.int .i64 2, .int .u64 0, .int .u64 0, .int .u64 0, .int .u64 0, .slice none 0 0]) ?_ 1 _ rfl; (with_reducible repeat (first | refine blk_drewN ?_ _ | refine blk_drew ?_ | refine blk_alloc ?_ _)); refine blk_put (cs := #[.int .i64 0, .int .u64 0, .int .u64 0, .int .u64 0, .int .u64 0, .slice none 0 0]) ?_ 0 _ rfl; (with_reducible repeat (first | refine blk_drewN ?_ _ | refine blk_drew ?_ | refine blk_alloc ?_ _)); exact BK241.out) Try.underlying52 rfl (by kernel_rfl)) rfl ?_
     exact ⟨_, by first | rfl | (simp [errW_none, errW_some] <;> rfl) | (simp [errW_none, errW_some] <;> first | rfl | exact isEmpty_bne _) | (simp [*, errW_none, errW_some] <;> rfl), by (with_reducible repeat (first | apply Kd.R_alloc | apply Kd.R_drewN | apply Kd.R_drew)); exact Kd.R_mono (Kd.R_far (p := ⟨gb241, 5, none⟩) (Kd.R_far (p := ⟨gb241, 4, none⟩) (Kd.R_far (p := ⟨gb241, 3, none⟩) (Kd.R_far (p := ⟨gb241, 2, none⟩) (Kd.R_far (p := ⟨gb241, 1, none⟩) (Kd.R_far (p := ⟨gb241, 0, none⟩) (Kd.R_mono HO_3.out (fun k_ hk => (⟨hk, hk⟩ : _ ∧ k_ ≠ gb241))) (fun _ hk => hk.2) (.int .i64 2)) (fun _ hk => hk.2) (.int .u64 0)) (fun _ hk => hk.2) (.int .u64 0)) (fun _ hk => hk.2) (.int .u64 0)) (fun _ hk => hk.2) (.int .u64 0)) (fun _ hk => hk.2) (.slice Ao113 x3_1.length co113)) (fun _ hk => trivial), by repeat (first | (with_reducible first | exact HI0.out | apply IsS76.alloc | apply IsS76.drewN | apply IsS76.drew | apply IsS76.set_0 | apply IsS76.set_1 | apply IsS76.set_2 | apply IsS76.set_3 | apply IsS76.set_4 | apply IsS76.far (hne := NB0_241.out)) | exact HI0.out), by repeat (first | (with_reducible first | exact HB.out | apply below_alloc | apply pw_below_drewN | apply below_drew1 | refine below_set ?_ (IsS76.ge HI0.out) | refine below_set ?_ GE241.out) | exact HB.out), by repeat (first | (with_reducible first | exact HK.out | apply KeepBut.set_ | apply keep_drewN | apply keep_drew | apply keep_alloc | refine keep_far ?_ GW241.out _) | exact HK.out)⟩

end Go.Proofs.Ythlffghlkggimaa.Pr
