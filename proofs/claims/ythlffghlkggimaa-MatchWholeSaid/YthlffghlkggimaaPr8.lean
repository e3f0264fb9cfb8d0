/- The machine's side, written by a patched print (wip/tools): each theorem says that a call of the Go function comes to what the Lean function beside it computes, where the tables are laid (TB). -/
import Derived.Test.YthlffghlkggimaaPuRxS
import Derived.Test.YthlffghlkggimaaPr0
import Derived.Test.YthlffghlkggimaaPr1
import Derived.Test.YthlffghlkggimaaPr2
import Derived.Test.YthlffghlkggimaaPr4
import Derived.Test.YthlffghlkggimaaPr5
namespace Go.Proofs.Ythlffghlkggimaa.Pr
open Go.RowKit Go.Proofs.YthlffghlkggimaaW.PrintWords Go.Proofs.YthlffghlkggimaaW.PrintLast Go.Proofs.YthlffghlkggimaaW.PrintMore
attribute [local go_sem] fld30_0 fld30_1 fld30_2 fld58_0 fld58_1 fld58_2 fld58_3 fld58_4 fld66_0 fld66_1 fld76_0 fld76_1 fld76_2 fld76_3 fld76_4 fld84_0 fld84_1 fld84_2 fld84_3 fld93_0 fld93_1 fld93_2 fld9000_0 fld9000_1 fld9000_2 fld9000_3 fld9000_4 binOp_string_gtr2 binOp_string_leq2 binOp_string_geq2 max2_int min2_int max_two min_two max_three min_three max_four min_four   -- for this text's walks alone
set_option linter.unusedVariables false
set_option linter.unusedSimpArgs false
theorem qf0 {P : Prop} (h : P := by repeat (first | (with_reducible first | exact HK.out | apply KeepBut.set_ | apply keep_drewN | apply keep_drew | apply keep_alloc | refine keep_far ?_ GW300.out _) | exact HK.out)) : P := h
theorem qf1 {P : Prop} (h : P := by repeat (first | (with_reducible first | exact HK.out | apply KeepBut.set_ | apply keep_drewN | apply keep_drew | apply keep_alloc) | exact HK.out)) : P := h
theorem qf2 {P : Prop} (h : P := by (try simp only [List.map_toArray, List.map_cons, List.map_nil]); first | done | rfl | (simp only [List.length_drop, List.length_take]; rfl)) : P := h
theorem qf3 {P : Prop} (h : P := by (with_reducible repeat (first | refine blk_drewN ?_ _ | refine blk_drew ?_ | refine blk_alloc ?_ _)); exact BK300.out) : P := h
theorem qf4 {P : Prop} (h : P := by (with_reducible repeat (first | refine blk_drewN ?_ _ | refine blk_drew ?_ | refine blk_alloc ?_ _)); refine blk_put (cs := #[.int .i64 t313, .int .u64 t314, .int .u64 t315, .int .u64 t316, .int .u64 t317, .slice none 0 0]) ?_ 5 _ rfl; (with_reducible repeat (first | refine blk_drewN ?_ _ | refine blk_drew ?_ | refine blk_alloc ?_ _)); refine blk_put (cs := #[.int .i64 t313, .int .u64 t314, .int .u64 t315, .int .u64 t316, .int .u64 0, .slice none 0 0]) ?_ 4 _ rfl; (with_reducible repeat (first | refine blk_drewN ?_ _ | refine blk_drew ?_ | refine blk_alloc ?_ _)); refine blk_put (cs := #[.int .i64 t313, .int .u64 t314, .int .u64 t315, .int .u64 0, .int .u64 0, .slice none 0 0]) ?_ 3 _ rfl; (with_reducible repeat (first | refine blk_drewN ?_ _ | refine blk_drew ?_ | refine blk_alloc ?_ _)); refine blk_put (cs := #[.int .i64 t313, .int .u64 t314, .int .u64 0, .int .u64 0, .int .u64 0, .slice none 0 0]) ?_ 2 _ rfl; (with_reducible repeat (first | refine blk_drewN ?_ _ | refine blk_drew ?_ | refine blk_alloc ?_ _)); refine blk_put (cs := #[.int .i64 t313, .int .u64 0, .int .u64 0, .int .u64 0, .int .u64 0, .slice none 0 0]) ?_ 1 _ rfl; (with_reducible repeat (first | refine blk_drewN ?_ _ | refine blk_drew ?_ | refine blk_alloc ?_ _)); refine blk_put (cs := #[.int .i64 0, .int .u64 0, .int .u64 0, .int .u64 0, .int .u64 0, .slice none 0 0]) ?_ 0 _ rfl; (with_reducible repeat (first | refine blk_drewN ?_ _ | refine blk_drew ?_ | refine blk_alloc ?_ _)); refine blk_far ?_ NB300_0.out _; (with_reducible repeat (first | refine blk_drewN ?_ _ | refine blk_drew ?_ | refine blk_alloc ?_ _)); refine blk_far ?_ NB300_0.out _; (with_reducible repeat (first | refine blk_drewN ?_ _ | refine blk_drew ?_ | refine blk_alloc ?_ _)); exact BK300.out) : P := h
theorem qf5 {P : Prop} (h : P := by repeat (first | (with_reducible first | exact HB.out | apply below_alloc | apply pw_below_drewN | apply below_drew1 | refine below_set ?_ (IsS76.ge HI0.out) | refine below_set ?_ GE300.out) | exact HB.out)) : P := h
theorem qf6 {P : Prop} (h : P := by repeat (first | (with_reducible first | exact HI0.out | apply IsS76.alloc | apply IsS76.drewN | apply IsS76.drew | apply IsS76.set_0 | apply IsS76.set_1 | apply IsS76.set_2 | apply IsS76.set_3 | apply IsS76.set_4) | exact HI0.out)) : P := h
theorem qf7 {P : Prop} (h : P := by repeat (first | (with_reducible first | exact HB.out | apply below_alloc | apply pw_below_drewN | apply below_drew1 | refine below_set ?_ (IsS76.ge HI0.out)) | exact HB.out)) : P := h
theorem qf8 {P : Prop} (h : P := by repeat (first | (with_reducible first | exact HI0.out | apply IsS76.alloc | apply IsS76.drewN | apply IsS76.drew | apply IsS76.set_0 | apply IsS76.set_1 | apply IsS76.set_2 | apply IsS76.set_3 | apply IsS76.set_4 | apply IsS76.far (hne := NB0_300.out)) | exact HI0.out)) : P := h
theorem qf9 {P : Prop} (h : P := by first | rfl | (simp; done) | (simp [*]; done) | (simp; unfold wrap64; omega)) : P := h
theorem qf10 {P : Prop} (h : P := by (with_reducible repeat (first | refine blk_drewN ?_ _ | refine blk_drew ?_ | refine blk_alloc ?_ _)); refine blk_far ?_ NB300_0.out _; (with_reducible repeat (first | refine blk_drewN ?_ _ | refine blk_drew ?_ | refine blk_alloc ?_ _)); exact BK300.out) : P := h
theorem qf11 {P : Prop} (h : P := by repeat (first | (with_reducible first | exact HK.out | apply KeepBut.set_ | apply keep_drewN | apply keep_drew | apply keep_alloc | refine keep_far ?_ GW300.out _ | refine keep_far ?_ GW326.out _) | exact HK.out)) : P := h

set_option maxHeartbeats 8000000 in
set_option maxRecDepth 100000 in
theorem regex_reader_atom.callsS (k : Nat) (ih : ∀ m, m < k → regex_reader_atom.Spec m) (ih_regex_reader_alt : ∀ m, m < k → regex_reader_alt.Spec m) (ih_regex_reader_cat : ∀ m, m < k → regex_reader_cat.Spec m) : regex_reader_atom.Spec k := by
 intro g s0_0 s0_1 s0_2 s0_3 s0_4 r1 r2 r3 r4 r5 r6 r7 r8 r9 r10 r11 w0 w hI hB hT h
 cases k with
 | zero => exact absurd h (by simp [regex_reader_atom.f])
 | succ k =>
 simp only [regex_reader_atom.f] at h
 have hu52 := Try.underlying52
 have hu49 := Try.underlying49
 have HI0 := Aside0.mk hI
 have HK := Aside0.mk (KeepBut.refl w g none)
 have HL := Aside0.mk hB.size
 clear hI
 have HW0 := Aside0.mk hB.size
 have HB := Aside0.mk hB
 clear hB
 have H : ((regex_reader_next.f s0_0 s0_1 s0_2 s0_3 s0_4).bind fun bt301 => (if bt301.1 = 40 then (if (wrap64 (bt301.2.2.2.2.1 + 1)) > 20 then ((regex_reader_fail.f bt301.2.2.1 (wrap64 (bt301.2.2.2.1 + 1)) (wrap64 (bt301.2.2.2.2.1 + 1)) bt301.2.2.2.2.2.1 bt301.2.2.2.2.2.2 (wrap64 ((wrap64 (bt301.2.2.2.1 + 1)) - 1)) 14).bind fun bt308 => (regex_reader_atom.j0 k (wrap64 ((wrap64 (bt301.2.2.2.1 + 1)) - 1)) bt308.1 bt308.2.1 bt308.2.2.1 bt308.2.2.2.1 bt308.2.2.2.2)) else (regex_reader_atom.j0 k (wrap64 ((wrap64 (bt301.2.2.2.1 + 1)) - 1)) bt301.2.2.1 (wrap64 (bt301.2.2.2.1 + 1)) (wrap64 (bt301.2.2.2.2.1 + 1)) bt301.2.2.2.2.2.1 bt301.2.2.2.2.2.2)) else (if bt301.1 = 91 then ((regex_reader_set.f k bt301.2.2.1 (wrap64 (bt301.2.2.2.1 + 1)) bt301.2.2.2.2.1 bt301.2.2.2.2.2.1 bt301.2.2.2.2.2.2).bind fun bt339 => (some (1, bt339.1, bt339.2.1, bt339.2.2.1, bt339.2.2.2.1, ([] : List (S52)), bt339.2.2.2.2.1, bt339.2.2.2.2.2.1, bt339.2.2.2.2.2.2.1, bt339.2.2.2.2.2.2.2.1, bt339.2.2.2.2.2.2.2.2))) else (if bt301.1 = 46 then ((regex_Set_Not.f 0 0 0 0).bind fun bt348 => (some (1, bt348.1, bt348.2.1, bt348.2.2.1, bt348.2.2.2, ([] : List (S52)), bt301.2.2.1, wrap64 (bt301.2.2.2.1 + 1), bt301.2.2.2.2.1, bt301.2.2.2.2.2.1, bt301.2.2.2.2.2.2))) else (if bt301.1 = 94 then (some (7, 0, 0, 0, 0, ([] : List (S52)), bt301.2.2.1, wrap64 (bt301.2.2.2.1 + 1), bt301.2.2.2.2.1, bt301.2.2.2.2.2.1, bt301.2.2.2.2.2.2)) else (if bt301.1 = 36 then (some (8, 0, 0, 0, 0, ([] : List (S52)), bt301.2.2.1, wrap64 (bt301.2.2.2.1 + 1), bt301.2.2.2.2.1, bt301.2.2.2.2.2.1, bt301.2.2.2.2.2.2)) else (if bt301.1 = 42 then (regex_reader_atom.j2 k bt301.1 bt301.1 (bt301.1 == 42) bt301.2.2.1 (wrap64 (bt301.2.2.2.1 + 1)) bt301.2.2.2.2.1 bt301.2.2.2.2.2.1 bt301.2.2.2.2.2.2) else (if bt301.1 = 43 then (regex_reader_atom.j2 k bt301.1 bt301.1 (bt301.1 == 43) bt301.2.2.1 (wrap64 (bt301.2.2.2.1 + 1)) bt301.2.2.2.2.1 bt301.2.2.2.2.2.1 bt301.2.2.2.2.2.2) else (regex_reader_atom.j2 k bt301.1 bt301.1 (bt301.1 == 63) bt301.2.2.1 (wrap64 (bt301.2.2.2.1 + 1)) bt301.2.2.2.2.1 bt301.2.2.2.2.2.1 bt301.2.2.2.2.2.2))))))))) = some (r1, r2, r3, r4, r5, r6, r7, r8, r9, r10, r11) := h
 clear h
 replace H := Option.bind_eq_some_iff.mp H
 obtain ⟨⟨t301, t302, t303, t304, t305, t306, t307⟩, A20, H⟩ := H
 replace H : (if t301 = 40 then (if (wrap64 (t305 + 1)) > 20 then ((regex_reader_fail.f t303 (wrap64 (t304 + 1)) (wrap64 (t305 + 1)) t306 t307 (wrap64 ((wrap64 (t304 + 1)) - 1)) 14).bind fun bt308 => (regex_reader_atom.j0 k (wrap64 ((wrap64 (t304 + 1)) - 1)) bt308.1 bt308.2.1 bt308.2.2.1 bt308.2.2.2.1 bt308.2.2.2.2)) else (regex_reader_atom.j0 k (wrap64 ((wrap64 (t304 + 1)) - 1)) t303 (wrap64 (t304 + 1)) (wrap64 (t305 + 1)) t306 t307)) else (if t301 = 91 then ((regex_reader_set.f k t303 (wrap64 (t304 + 1)) t305 t306 t307).bind fun bt339 => (some (1, bt339.1, bt339.2.1, bt339.2.2.1, bt339.2.2.2.1, ([] : List (S52)), bt339.2.2.2.2.1, bt339.2.2.2.2.2.1, bt339.2.2.2.2.2.2.1, bt339.2.2.2.2.2.2.2.1, bt339.2.2.2.2.2.2.2.2))) else (if t301 = 46 then ((regex_Set_Not.f 0 0 0 0).bind fun bt348 => (some (1, bt348.1, bt348.2.1, bt348.2.2.1, bt348.2.2.2, ([] : List (S52)), t303, wrap64 (t304 + 1), t305, t306, t307))) else (if t301 = 94 then (some (7, 0, 0, 0, 0, ([] : List (S52)), t303, wrap64 (t304 + 1), t305, t306, t307)) else (if t301 = 36 then (some (8, 0, 0, 0, 0, ([] : List (S52)), t303, wrap64 (t304 + 1), t305, t306, t307)) else (if t301 = 42 then (regex_reader_atom.j2 k t301 t301 (t301 == 42) t303 (wrap64 (t304 + 1)) t305 t306 t307) else (if t301 = 43 then (regex_reader_atom.j2 k t301 t301 (t301 == 43) t303 (wrap64 (t304 + 1)) t305 t306 t307) else (regex_reader_atom.j2 k t301 t301 (t301 == 63) t303 (wrap64 (t304 + 1)) t305 t306 t307)))))))) = some (r1, r2, r3, r4, r5, r6, r7, r8, r9, r10, r11) := H
 have A2 := Aside0.mk A20
 clear A20
 by_cases c3 : t301 = 40
 ·rw [if_pos c3] at H
  have c3b0 : (t301 == 40) = true := beq_iff_eq.mpr c3
  have c3b1 : (t301 != 40) = false := bne_eq_false_iff_eq.mpr c3
  clear c3
  have HC4 := Aside0.mk H
  clear H
  go_enter Try.func42, Try.ntmps42
  go_upto_if 40 with (first | ((with_reducible refine gate_dst (N := 2) rfl ?_); refine box_event ?hg (N := 2) ?hd (cs := #[.int .i64 0, .int .u64 0, .int .u64 0, .int .u64 0, .int .u64 0, .slice none 0 0]) (t := 52) ?hr ?_; (case hd => rfl); (case hg => rfl); (case hr => first | (go_simp; done) | (go_simp; rfl)); intro gb300 hg w5 hbox hb; have n0_ := Aside0.mk (IsS76.below qf6 hb); have n1_ := Aside0.mk (KeepBut.trans qf1 (KeepBut.of_below hb g none) (.inl rfl)); have n2_ := Aside0.mk (below_step qf7 hb); have n3_ := Aside0.mk (hbox); have n4_ := Aside0.mk ((by rw [hg]; exact (keep_size (w := w) (g := g) (row := none) qf1) : w.heap.size ≤ gb300)); have n5_ := Aside0.mk ((Nat.le_trans HW0.out (by rw [hg]; exact (keep_size (w := w) (g := g) (row := none) qf1) : w.heap.size ≤ gb300) : w0.heap.size ≤ gb300)); have n6_ := Aside0.mk ((by rw [hg]; exact Nat.ne_of_lt (IsS76.lt (show IsS76 w0 _ g s0_0 s0_1 s0_2 s0_3 s0_4 from by repeat (first | (with_reducible first | exact HI0.out | apply IsS76.alloc | apply IsS76.drewN | apply IsS76.drew | apply IsS76.set_0 | apply IsS76.set_1 | apply IsS76.set_2 | apply IsS76.set_3 | apply IsS76.set_4) | exact HI0.out))) : g ≠ gb300)); have n7_ := Aside0.mk ((by rw [hg]; exact Nat.ne_of_gt (IsS76.lt (show IsS76 w0 _ g s0_0 s0_1 s0_2 s0_3 s0_4 from by repeat (first | (with_reducible first | exact HI0.out | apply IsS76.alloc | apply IsS76.drewN | apply IsS76.drew | apply IsS76.set_0 | apply IsS76.set_1 | apply IsS76.set_2 | apply IsS76.set_3 | apply IsS76.set_4) | exact HI0.out))) : gb300 ≠ g)); clear HI0; clear HK; clear HB; have HI0 := n0_; have HK := n1_; have HB := n2_; have BK300 := n3_; have GW300 := n4_; have GE300 := n5_; have NB0_300 := n6_; have NB300_0 := n7_; clear n0_ n1_ n2_ n3_ n4_ n5_ n6_ n7_; clear hb hbox hg) | ((with_reducible refine gate_callee (f := 36) rfl ?_); refine goesL_ (some 11) rfl rfl Try.func36 (by kernel_rfl) rfl #[.pointer (some ⟨g, 0, none⟩)] rfl qf2 ?_; (with_reducible refine (regex_reader_next.calls g s0_0 s0_1 s0_2 s0_3 s0_4 t301 t302 t303 t304 t305 t306 t307 w0 _ ?side1 ?side2 ?side3 A2.out).mono ?_); (case side1 => repeat (first | (with_reducible first | exact HI0.out | apply IsS76.alloc | apply IsS76.drewN | apply IsS76.drew | apply IsS76.set_0 | apply IsS76.set_1 | apply IsS76.set_2 | apply IsS76.set_3 | apply IsS76.set_4 | apply IsS76.far (hne := NB0_300.out)) | exact HI0.out)); (case side2 => repeat (first | (with_reducible first | exact HB.out | apply below_alloc | apply pw_below_drewN | apply below_drew1 | refine below_set ?_ (IsS76.ge HI0.out) | refine below_set ?_ GE300.out) | exact HB.out)); (case side3 => exact hT); rintro e w6 ⟨rfl, hi, hb, hk⟩; refine ⟨_, rfl, ?_⟩; have n0_ := Aside0.mk (KeepBut.blk hk (g' := gb300) (o := .cells #[.int .i64 0, .int .u64 0, .int .u64 0, .int .u64 0, .int .u64 0, .slice none 0 0] 52 (0, 0)) qf3 NB300_0.out (by simp)); have n1_ := Aside0.mk (KeepBut.trans qf0 hk (.inl rfl)); have n2_ := Aside0.mk (hb); have n3_ := Aside0.mk (hi); clear BK300; clear HK; clear HB; clear HI0; have BK300 := n0_; have HK := n1_; have HB := n2_; have HI0 := n3_; clear n0_ n1_ n2_ n3_; (try clear hb); (try clear hb2); (try clear hk); (try clear hi); obtain ⟨HGz7, hgz7⟩ := HI0.out; have hcz7_0 := cellS76_0 HGz7; have hcz7_1 := cellS76_1 HGz7; have hcz7_2 := cellS76_2 HGz7; have hcz7_3 := cellS76_3 HGz7; have hcz7_4 := cellS76_4 HGz7; have hfz7_0 := blk_frozen HGz7 0; have hfz7_1 := blk_frozen HGz7 1; have hfz7_2 := blk_frozen HGz7 2; have hfz7_3 := blk_frozen HGz7 3; have hfz7_4 := blk_frozen HGz7 4; clear HGz7 hgz7))
  (try simp only [Act.put, List.setIfInBounds_toArray, List.set_cons_zero, List.set_cons_succ])
  go_cut [] (fun wc => ∃ (kq : Nat) (x1000_3 : ByteArray) (x1001_3 : Int) (x1002_3 : Int) (x1003_3 : Int) (x1004_3 : Int), Aside0 (regex_reader_atom.j0 kq (wrap64 ((wrap64 (t304 + 1)) - 1)) x1000_3 x1001_3 x1002_3 x1003_3 x1004_3 = some (r1, r2, r3, r4, r5, r6, r7, r8, r9, r10, r11)) ∧ Aside0 (kq ≤ k) ∧ Aside0 (wc.heap[gb300]? = some (.cells #[.int .i64 0, .int .u64 0, .int .u64 0, .int .u64 0, .int .u64 0, (.slice none 0 0)] 52 (0, 0))) ∧ Aside0 (IsS76 w0 wc g x1000_3 x1001_3 x1002_3 x1003_3 x1004_3) ∧ Aside0 (KeepBut w wc g none) ∧ Aside0 (Below w0.heap.size w0 wc))
  case first =>
   have H := HC4.out
   clear HC4
   by_cases c8 : (wrap64 (t305 + 1)) > 20
   ·rw [if_pos c8] at H
    have c8b0 : decide (20 < (wrap64 (t305 + 1))) = true := decide_eq_true c8
    clear c8
    (first | rw [c8b0] | (simp only [i64_w, i32_w]; rw [c8b0]) | skip)
    replace H := Option.bind_eq_some_iff.mp H
    obtain ⟨⟨t308, t309, t310, t311, t312⟩, A90, H⟩ := H
    replace H : (regex_reader_atom.j0 k (wrap64 ((wrap64 (t304 + 1)) - 1)) t308 t309 t310 t311 t312) = some (r1, r2, r3, r4, r5, r6, r7, r8, r9, r10, r11) := H
    have A9 := Aside0.mk A90
    clear A90
    have H' := Aside0.mk H
    clear H
    go_wp2_with (first | ((with_reducible refine gate_callee (f := 41) rfl ?_); refine goesL_ (some 43) rfl rfl Try.func41 (by kernel_rfl) rfl #[.pointer (some ⟨g, 0, none⟩), .int .i64 (wrap64 ((wrap64 (t304 + 1)) - 1)), .int .i64 14] rfl qf2 ?_; (with_reducible refine (regex_reader_fail.calls g t303 (wrap64 (t304 + 1)) (wrap64 (t305 + 1)) t306 t307 (wrap64 ((wrap64 (t304 + 1)) - 1)) 14 t308 t309 t310 t311 t312 w0 _ ?side1 ?side2 ?side3 A9.out).mono ?_); (case side1 => repeat (first | (with_reducible first | exact HI0.out | apply IsS76.alloc | apply IsS76.drewN | apply IsS76.drew | apply IsS76.set_0 | apply IsS76.set_1 | apply IsS76.set_2 | apply IsS76.set_3 | apply IsS76.set_4 | apply IsS76.far (hne := NB0_300.out)) | exact HI0.out)); (case side2 => repeat (first | (with_reducible first | exact HB.out | apply below_alloc | apply pw_below_drewN | apply below_drew1 | refine below_set ?_ (IsS76.ge HI0.out) | refine below_set ?_ GE300.out) | exact HB.out)); (case side3 => exact hT); rintro e w10 ⟨rfl, hi, hb, hk⟩; refine ⟨_, rfl, ?_⟩; have n0_ := Aside0.mk (KeepBut.blk hk (g' := gb300) (o := .cells #[.int .i64 0, .int .u64 0, .int .u64 0, .int .u64 0, .int .u64 0, .slice none 0 0] 52 (0, 0)) (by (with_reducible repeat (first | refine blk_drewN ?_ _ | refine blk_drew ?_ | refine blk_alloc ?_ _)); refine blk_far ?_ NB300_0.out _; (with_reducible repeat (first | refine blk_drewN ?_ _ | refine blk_drew ?_ | refine blk_alloc ?_ _)); refine blk_far ?_ NB300_0.out _; (with_reducible repeat (first | refine blk_drewN ?_ _ | refine blk_drew ?_ | refine blk_alloc ?_ _)); exact BK300.out) NB300_0.out (by simp)); have n1_ := Aside0.mk (KeepBut.trans qf0 hk (.inl rfl)); have n2_ := Aside0.mk (hb); have n3_ := Aside0.mk (hi); clear BK300; clear HK; clear HB; clear HI0; have BK300 := n0_; have HK := n1_; have HB := n2_; have HI0 := n3_; clear n0_ n1_ n2_ n3_; (try clear hb); (try clear hb2); (try clear hk); (try clear hi)))
    go_meet
    case rel => exact ⟨_, (t308), (t309), (t310), (t311), (t312), H', ⟨by first | omega | exact Nat.le_refl _⟩, ⟨by (with_reducible repeat (first | refine blk_drewN ?_ _ | refine blk_drew ?_ | refine blk_alloc ?_ _)); exact BK300.out⟩, ⟨by repeat (first | (with_reducible first | exact HI0.out | apply IsS76.alloc | apply IsS76.drewN | apply IsS76.drew | apply IsS76.set_0 | apply IsS76.set_1 | apply IsS76.set_2 | apply IsS76.set_3 | apply IsS76.set_4 | apply IsS76.far (hne := NB0_300.out)) | exact HI0.out)⟩, ⟨by repeat (first | (with_reducible first | exact HK.out | apply KeepBut.set_ | apply keep_drewN | apply keep_drew | apply keep_alloc | refine keep_far ?_ GW300.out _) | exact HK.out)⟩, ⟨by repeat (first | (with_reducible first | exact HB.out | apply below_alloc | apply pw_below_drewN | apply below_drew1 | refine below_set ?_ (IsS76.ge HI0.out) | refine below_set ?_ GE300.out) | exact HB.out)⟩⟩
   ·rw [if_neg c8] at H
    have c8b0 : decide (20 < (wrap64 (t305 + 1))) = false := decide_eq_false c8
    clear c8
    (first | rw [c8b0] | (simp only [i64_w, i32_w]; rw [c8b0]) | skip)
    have H' := Aside0.mk H
    clear H
    go_wp2
    go_meet
    case rel => exact ⟨_, (t303), (wrap64 (t304 + 1)), (wrap64 (t305 + 1)), (t306), (t307), H', ⟨by first | omega | exact Nat.le_refl _⟩, ⟨by (with_reducible repeat (first | refine blk_drewN ?_ _ | refine blk_drew ?_ | refine blk_alloc ?_ _)); refine blk_far ?_ NB300_0.out _; (with_reducible repeat (first | refine blk_drewN ?_ _ | refine blk_drew ?_ | refine blk_alloc ?_ _)); refine blk_far ?_ NB300_0.out _; (with_reducible repeat (first | refine blk_drewN ?_ _ | refine blk_drew ?_ | refine blk_alloc ?_ _)); exact BK300.out⟩, ⟨by repeat (first | (with_reducible first | exact HI0.out | apply IsS76.alloc | apply IsS76.drewN | apply IsS76.drew | apply IsS76.set_0 | apply IsS76.set_1 | apply IsS76.set_2 | apply IsS76.set_3 | apply IsS76.set_4 | apply IsS76.far (hne := NB0_300.out)) | exact HI0.out)⟩, ⟨by repeat (first | (with_reducible first | exact HK.out | apply KeepBut.set_ | apply keep_drewN | apply keep_drew | apply keep_alloc | refine keep_far ?_ GW300.out _) | exact HK.out)⟩, ⟨by repeat (first | (with_reducible first | exact HB.out | apply below_alloc | apply pw_below_drewN | apply below_drew1 | refine below_set ?_ (IsS76.ge HI0.out) | refine below_set ?_ GE300.out) | exact HB.out)⟩⟩
  case rest =>
   clear HC4
   try clear p2
   try clear c3
   try clear c3b0
   try clear c3b1
   try clear c4
   try clear p6
   try clear c8
   try clear c8b0
   try clear hcz7_0
   try clear hcz7_1
   try clear hcz7_2
   try clear hcz7_3
   try clear hcz7_4
   try clear hfz7_0
   try clear hfz7_1
   try clear hfz7_2
   try clear hfz7_3
   try clear hfz7_4
   obtain ⟨kq, x1000_3, x1001_3, x1002_3, x1003_3, x1004_3, HA, HJ3, BK300, HI0, HK, HB⟩ := hcut
   cases kq with
   | zero => exact absurd HA.out (by simp [regex_reader_atom.j0])
   | succ kj3 =>
    have H := HA.out
    clear HA
    simp only [regex_reader_atom.j0] at H
    replace H := Option.bind_eq_some_iff.mp H
    obtain ⟨⟨t313, t314, t315, t316, t317, t318, t321, t322, t323, t324, t325⟩, A110, H⟩ := H
    replace H : ((regex_reader_next.f t321 t322 t323 t324 t325).bind fun bt327 => (if bt327.2.1 = true then (regex_reader_atom.j1 kj3 (wrap64 ((wrap64 (t304 + 1)) - 1)) (bt327.1 != 41) bt327.2.2.1 bt327.2.2.2.1 bt327.2.2.2.2.1 bt327.2.2.2.2.2.1 bt327.2.2.2.2.2.2 t313 t314 t315 t316 t317 t318) else (regex_reader_atom.j1 kj3 (wrap64 ((wrap64 (t304 + 1)) - 1)) true bt327.2.2.1 bt327.2.2.2.1 bt327.2.2.2.2.1 bt327.2.2.2.2.2.1 bt327.2.2.2.2.2.2 t313 t314 t315 t316 t317 t318))) = some (r1, r2, r3, r4, r5, r6, r7, r8, r9, r10, r11) := H
    have A11 := Aside0.mk A110
    clear A110
    replace H := Option.bind_eq_some_iff.mp H
    obtain ⟨⟨t327, t328, t329, t330, t331, t332, t333⟩, A120, H⟩ := H
    replace H : (if t328 = true then (regex_reader_atom.j1 kj3 (wrap64 ((wrap64 (t304 + 1)) - 1)) (t327 != 41) t329 t330 t331 t332 t333 t313 t314 t315 t316 t317 t318) else (regex_reader_atom.j1 kj3 (wrap64 ((wrap64 (t304 + 1)) - 1)) true t329 t330 t331 t332 t333 t313 t314 t315 t316 t317 t318)) = some (r1, r2, r3, r4, r5, r6, r7, r8, r9, r10, r11) := H
    have A12 := Aside0.mk A120
    clear A120
    have HC13 := Aside0.mk H
    clear H
    go_upto_region 11 with (first | ((with_reducible refine gate_callee (f := 29) rfl ?_); refine goesL_ (some 45) rfl rfl Try.func29 (by kernel_rfl) rfl #[.pointer (some ⟨g, 0, none⟩)] rfl qf2 ?_; (with_reducible refine (ih_regex_reader_alt kj3 (by have := HJ3.out; omega) g x1000_3 x1001_3 x1002_3 x1003_3 x1004_3 t313 t314 t315 t316 t317 t318 t321 t322 t323 t324 t325 w0 _ ?side1 ?side2 ?side3 A11.out).mono ?_); (case side1 => repeat (first | (with_reducible first | exact HI0.out | apply IsS76.alloc | apply IsS76.drewN | apply IsS76.drew | apply IsS76.set_0 | apply IsS76.set_1 | apply IsS76.set_2 | apply IsS76.set_3 | apply IsS76.set_4 | apply IsS76.far (hne := NB0_300.out)) | exact HI0.out)); (case side2 => repeat (first | (with_reducible first | exact HB.out | apply below_alloc | apply pw_below_drewN | apply below_drew1 | refine below_set ?_ (IsS76.ge HI0.out) | refine below_set ?_ GE300.out) | exact HB.out)); (case side3 => exact hT); rintro e w14 ⟨v319, rfl, ho0, hi, hb, hk⟩; refine ⟨_, rfl, ?_⟩; have n0_ := Aside0.mk (KeepBut.blk hk (g' := gb300) (o := .cells #[.int .i64 0, .int .u64 0, .int .u64 0, .int .u64 0, .int .u64 0, .slice none 0 0] 52 (0, 0)) qf3 NB300_0.out (by simp)); have n1_ := Aside0.mk (Kd.R_lower (Kd.R_newB ho0 (g := gb300) (o := .cells #[.int .i64 0, .int .u64 0, .int .u64 0, .int .u64 0, .int .u64 0, .slice none 0 0] 52 (0, 0)) qf3) (keep_size (w := w) (g := g) (row := none) qf0)); have n2_ := Aside0.mk (KeepBut.trans qf0 hk (.inl rfl)); have n3_ := Aside0.mk (hb); have n4_ := Aside0.mk (hi); clear BK300; clear HK; clear HB; clear HI0; have BK300 := n0_; have HO320 := n1_; have HK := n2_; have HB := n3_; have HI0 := n4_; clear n0_ n1_ n2_ n3_ n4_; (try clear hb); (try clear hb2); (try clear hk); (try clear hi); (try clear ho0)) | ((with_reducible refine gate_dst (N := 6) rfl ?_); refine box_event ?hg (N := 6) ?hd (cs := #[.int .i64 0, .int .u64 0, .int .u64 0, .int .u64 0, .int .u64 0, .slice none 0 0]) (t := 52) ?hr ?_; (case hd => rfl); (case hg => rfl); (case hr => first | (go_simp; done) | (go_simp; rfl)); intro gb326 hg w15 hbox hb; have n0_ := Aside0.mk (Kd.R_below (Kd.R_elderB (by (with_reducible repeat (first | apply Kd.R_alloc | apply Kd.R_drewN | apply Kd.R_drew)); exact HO320.out) gb326 (Nat.le_of_eq hg.symm)) hb); have n1_ := Aside0.mk (blk_below (g := gb300) (o := .cells #[.int .i64 0, .int .u64 0, .int .u64 0, .int .u64 0, .int .u64 0, .slice none 0 0] 52 (0, 0)) qf3 hb); have n2_ := Aside0.mk (IsS76.below qf8 hb); have n3_ := Aside0.mk (KeepBut.trans qf0 (KeepBut.of_below hb g none) (.inl rfl)); have n4_ := Aside0.mk (below_step qf5 hb); have n5_ := Aside0.mk (hbox); have n6_ := Aside0.mk ((by rw [hg]; exact (keep_size (w := w) (g := g) (row := none) qf0) : w.heap.size ≤ gb326)); have n7_ := Aside0.mk ((Nat.le_trans HW0.out (by rw [hg]; exact (keep_size (w := w) (g := g) (row := none) qf0) : w.heap.size ≤ gb326) : w0.heap.size ≤ gb326)); have n8_ := Aside0.mk ((by rw [hg]; exact Nat.ne_of_lt (blk_lt (g := gb300) (o := .cells #[.int .i64 0, .int .u64 0, .int .u64 0, .int .u64 0, .int .u64 0, .slice none 0 0] 52 (0, 0)) qf3) : gb300 ≠ gb326)); have n9_ := Aside0.mk ((by rw [hg]; exact Nat.ne_of_gt (blk_lt (g := gb300) (o := .cells #[.int .i64 0, .int .u64 0, .int .u64 0, .int .u64 0, .int .u64 0, .slice none 0 0] 52 (0, 0)) qf3) : gb326 ≠ gb300)); have n10_ := Aside0.mk ((by rw [hg]; exact Nat.ne_of_lt (IsS76.lt (show IsS76 w0 _ g t321 t322 t323 t324 t325 from by repeat (first | (with_reducible first | exact HI0.out | apply IsS76.alloc | apply IsS76.drewN | apply IsS76.drew | apply IsS76.set_0 | apply IsS76.set_1 | apply IsS76.set_2 | apply IsS76.set_3 | apply IsS76.set_4 | apply IsS76.far (hne := NB0_300.out)) | exact HI0.out))) : g ≠ gb326)); have n11_ := Aside0.mk ((by rw [hg]; exact Nat.ne_of_gt (IsS76.lt (show IsS76 w0 _ g t321 t322 t323 t324 t325 from by repeat (first | (with_reducible first | exact HI0.out | apply IsS76.alloc | apply IsS76.drewN | apply IsS76.drew | apply IsS76.set_0 | apply IsS76.set_1 | apply IsS76.set_2 | apply IsS76.set_3 | apply IsS76.set_4 | apply IsS76.far (hne := NB0_300.out)) | exact HI0.out))) : gb326 ≠ g)); clear HO320; clear BK300; clear HI0; clear HK; clear HB; have HO320 := n0_; have BK300 := n1_; have HI0 := n2_; have HK := n3_; have HB := n4_; have BK326 := n5_; have GW326 := n6_; have GE326 := n7_; have NB300_326 := n8_; have NB326_300 := n9_; have NB0_326 := n10_; have NB326_0 := n11_; clear n0_ n1_ n2_ n3_ n4_ n5_ n6_ n7_ n8_ n9_ n10_ n11_; clear hb hbox hg; have hnb16 := NB326_300.out; have hnc16 := NB300_326.out; have hnb17 := NB326_0.out; have hnc17 := NB0_326.out; have hcz18_0 : w15.cell? ⟨gb326, 0, none⟩ = some (.int .i64 0) := (blk_cell BK326.out 0).trans rfl; have hcz18_1 : w15.cell? ⟨gb326, 1, none⟩ = some (.int .u64 0) := (blk_cell BK326.out 1).trans rfl; have hcz18_2 : w15.cell? ⟨gb326, 2, none⟩ = some (.int .u64 0) := (blk_cell BK326.out 2).trans rfl; have hcz18_3 : w15.cell? ⟨gb326, 3, none⟩ = some (.int .u64 0) := (blk_cell BK326.out 3).trans rfl; have hcz18_4 : w15.cell? ⟨gb326, 4, none⟩ = some (.int .u64 0) := (blk_cell BK326.out 4).trans rfl; have hcz18_5 : w15.cell? ⟨gb326, 5, none⟩ = some (.slice none 0 0) := (blk_cell BK326.out 5).trans rfl; have hfz18_0 := blk_frozen BK326.out 0; have hfz18_1 := blk_frozen BK326.out 1; have hfz18_2 := blk_frozen BK326.out 2; have hfz18_3 := blk_frozen BK326.out 3; have hfz18_4 := blk_frozen BK326.out 4; have hfz18_5 := blk_frozen BK326.out 5; obtain ⟨Ao19, co19, eo19⟩ := Kd.R_slice HO320.out; subst eo19) | ((with_reducible refine gate_callee (f := 36) rfl ?_); refine goesL_ (some 48) rfl rfl Try.func36 (by kernel_rfl) rfl #[.pointer (some ⟨g, 0, none⟩)] rfl qf2 ?_; (with_reducible refine (regex_reader_next.calls g t321 t322 t323 t324 t325 t327 t328 t329 t330 t331 t332 t333 w0 _ ?side1 ?side2 ?side3 A12.out).mono ?_); (case side1 => repeat (first | (with_reducible first | exact HI0.out | apply IsS76.alloc | apply IsS76.drewN | apply IsS76.drew | apply IsS76.set_0 | apply IsS76.set_1 | apply IsS76.set_2 | apply IsS76.set_3 | apply IsS76.set_4 | apply IsS76.far (hne := NB0_300.out) | apply IsS76.far (hne := NB0_326.out)) | exact HI0.out)); (case side2 => repeat (first | (with_reducible first | exact HB.out | apply below_alloc | apply pw_below_drewN | apply below_drew1 | refine below_set ?_ (IsS76.ge HI0.out) | refine below_set ?_ GE300.out | refine below_set ?_ GE326.out) | exact HB.out)); (case side3 => exact hT); rintro e w20 ⟨rfl, hi, hb, hk⟩; refine ⟨_, rfl, ?_⟩; have n0_ := Aside0.mk (KeepBut.blk hk (g' := gb300) (o := .cells #[.int .i64 0, .int .u64 0, .int .u64 0, .int .u64 0, .int .u64 0, .slice none 0 0] 52 (0, 0)) (by (with_reducible repeat (first | refine blk_drewN ?_ _ | refine blk_drew ?_ | refine blk_alloc ?_ _)); refine blk_far ?_ NB300_326.out _; (with_reducible repeat (first | refine blk_drewN ?_ _ | refine blk_drew ?_ | refine blk_alloc ?_ _)); refine blk_far ?_ NB300_326.out _; (with_reducible repeat (first | refine blk_drewN ?_ _ | refine blk_drew ?_ | refine blk_alloc ?_ _)); refine blk_far ?_ NB300_326.out _; (with_reducible repeat (first | refine blk_drewN ?_ _ | refine blk_drew ?_ | refine blk_alloc ?_ _)); refine blk_far ?_ NB300_326.out _; (with_reducible repeat (first | refine blk_drewN ?_ _ | refine blk_drew ?_ | refine blk_alloc ?_ _)); refine blk_far ?_ NB300_326.out _; (with_reducible repeat (first | refine blk_drewN ?_ _ | refine blk_drew ?_ | refine blk_alloc ?_ _)); refine blk_far ?_ NB300_326.out _; (with_reducible repeat (first | refine blk_drewN ?_ _ | refine blk_drew ?_ | refine blk_alloc ?_ _)); exact BK300.out) NB300_0.out (by simp)); have n1_ := Aside0.mk (Kd.R_mono (Kd.R_keep (IsS76.apart (show IsS76 w0 _ g t321 t322 t323 t324 t325 from by repeat (first | (with_reducible first | exact HI0.out | apply IsS76.alloc | apply IsS76.drewN | apply IsS76.drew | apply IsS76.set_0 | apply IsS76.set_1 | apply IsS76.set_2 | apply IsS76.set_3 | apply IsS76.set_4 | apply IsS76.far (hne := NB0_300.out) | apply IsS76.far (hne := NB0_326.out)) | exact HI0.out)) (by (with_reducible repeat (first | apply Kd.R_alloc | apply Kd.R_drewN | apply Kd.R_drew)); exact (Kd.R_mono (Kd.R_far (p := ⟨gb326, 5, none⟩) (Kd.R_far (p := ⟨gb326, 4, none⟩) (Kd.R_far (p := ⟨gb326, 3, none⟩) (Kd.R_far (p := ⟨gb326, 2, none⟩) (Kd.R_far (p := ⟨gb326, 1, none⟩) (Kd.R_far (p := ⟨gb326, 0, none⟩) (Kd.R_mono HO320.out (fun k_ hk => (⟨hk, hk.2⟩ : _ ∧ k_ ≠ gb326))) (fun _ hk => hk.2) (.int .i64 t313)) (fun _ hk => hk.2) (.int .u64 t314)) (fun _ hk => hk.2) (.int .u64 t315)) (fun _ hk => hk.2) (.int .u64 t316)) (fun _ hk => hk.2) (.int .u64 t317)) (fun _ hk => hk.2) (.slice Ao19 t318.length co19)) (fun _ h_ => h_.1))) (by decide)) hk (fun _ h => h.2)) (fun _ h => h.1)); have n2_ := Aside0.mk (KeepBut.blk hk (g' := gb326) (o := .cells #[.int .i64 t313, .int .u64 t314, .int .u64 t315, .int .u64 t316, .int .u64 t317, .slice Ao19 t318.length co19] 52 (0, 0)) (by (with_reducible repeat (first | refine blk_drewN ?_ _ | refine blk_drew ?_ | refine blk_alloc ?_ _)); refine blk_put (cs := #[.int .i64 t313, .int .u64 t314, .int .u64 t315, .int .u64 t316, .int .u64 t317, .slice none 0 0]) ?_ 5 _ rfl; (with_reducible repeat (first | refine blk_drewN ?_ _ | refine blk_drew ?_ | refine blk_alloc ?_ _)); refine blk_put (cs := #[.int .i64 t313, .int .u64 t314, .int .u64 t315, .int .u64 t316, .int .u64 0, .slice none 0 0]) ?_ 4 _ rfl; (with_reducible repeat (first | refine blk_drewN ?_ _ | refine blk_drew ?_ | refine blk_alloc ?_ _)); refine blk_put (cs := #[.int .i64 t313, .int .u64 t314, .int .u64 t315, .int .u64 0, .int .u64 0, .slice none 0 0]) ?_ 3 _ rfl; (with_reducible repeat (first | refine blk_drewN ?_ _ | refine blk_drew ?_ | refine blk_alloc ?_ _)); refine blk_put (cs := #[.int .i64 t313, .int .u64 t314, .int .u64 0, .int .u64 0, .int .u64 0, .slice none 0 0]) ?_ 2 _ rfl; (with_reducible repeat (first | refine blk_drewN ?_ _ | refine blk_drew ?_ | refine blk_alloc ?_ _)); refine blk_put (cs := #[.int .i64 t313, .int .u64 0, .int .u64 0, .int .u64 0, .int .u64 0, .slice none 0 0]) ?_ 1 _ rfl; (with_reducible repeat (first | refine blk_drewN ?_ _ | refine blk_drew ?_ | refine blk_alloc ?_ _)); refine blk_put (cs := #[.int .i64 0, .int .u64 0, .int .u64 0, .int .u64 0, .int .u64 0, .slice none 0 0]) ?_ 0 _ rfl; (with_reducible repeat (first | refine blk_drewN ?_ _ | refine blk_drew ?_ | refine blk_alloc ?_ _)); exact BK326.out) NB326_0.out (by simp)); have n3_ := Aside0.mk (KeepBut.trans qf11 hk (.inl rfl)); have n4_ := Aside0.mk (hb); have n5_ := Aside0.mk (hi); clear BK300; clear HO320; clear BK326; clear HK; clear HB; clear HI0; have BK300 := n0_; have HO320 := n1_; have BK326 := n2_; have HK := n3_; have HB := n4_; have HI0 := n5_; clear n0_ n1_ n2_ n3_ n4_ n5_; (try clear hb); (try clear hb2); (try clear hk); (try clear hi)))
    (try simp only [Act.put, List.setIfInBounds_toArray, List.set_cons_zero, List.set_cons_succ])
    go_cut [56] (fun v56 wc => ∃ (kq : Nat) (x56_12 : Bool), v56 = .bool x56_12 ∧ Aside0 (regex_reader_atom.j1 kq (wrap64 ((wrap64 (t304 + 1)) - 1)) x56_12 t329 t330 t331 t332 t333 t313 t314 t315 t316 t317 t318 = some (r1, r2, r3, r4, r5, r6, r7, r8, r9, r10, r11)) ∧ Aside0 (kq ≤ kj3) ∧ Aside0 (Kd.R k52 52 wc w.heap.size (fun k_ => k_ ≠ gb300 ∧ k_ ≠ gb326) (.slice Ao19 t318.length co19) t318) ∧ Aside0 (wc.heap[gb300]? = some (.cells #[.int .i64 0, .int .u64 0, .int .u64 0, .int .u64 0, .int .u64 0, (.slice none 0 0)] 52 (0, 0))) ∧ Aside0 (wc.heap[gb326]? = some (.cells #[.int .i64 t313, .int .u64 t314, .int .u64 t315, .int .u64 t316, .int .u64 t317, (.slice Ao19 t318.length co19)] 52 (0, 0))) ∧ Aside0 (IsS76 w0 wc g t329 t330 t331 t332 t333) ∧ Aside0 (KeepBut w wc g none) ∧ Aside0 (Below w0.heap.size w0 wc))
    case first =>
     have H := HC13.out
     clear HC13
     by_cases c21 : t328 = true
     ·subst c21
      have H1 : (regex_reader_atom.j1 kj3 (wrap64 ((wrap64 (t304 + 1)) - 1)) (t327 != 41) t329 t330 t331 t332 t333 t313 t314 t315 t316 t317 t318) = some (r1, r2, r3, r4, r5, r6, r7, r8, r9, r10, r11) := by rw [if_pos rfl] at H; exact H
      clear H
      have H := H1
      clear H1
      have H' := Aside0.mk H
      clear H
      go_wp2
      go_meet
      case rel => exact ⟨_, ((t327 != 41)), qf9, H', ⟨by have := HJ3.out; first | omega | exact Nat.le_refl _⟩, ⟨by (with_reducible repeat (first | apply Kd.R_alloc | apply Kd.R_drewN | apply Kd.R_drew)); exact Kd.R_mono HO320.out (fun _ hk => ⟨hk.1.2, hk.2⟩)⟩, ⟨by (with_reducible repeat (first | refine blk_drewN ?_ _ | refine blk_drew ?_ | refine blk_alloc ?_ _)); exact BK300.out⟩, ⟨by (with_reducible repeat (first | refine blk_drewN ?_ _ | refine blk_drew ?_ | refine blk_alloc ?_ _)); exact BK326.out⟩, ⟨by repeat (first | (with_reducible first | exact HI0.out | apply IsS76.alloc | apply IsS76.drewN | apply IsS76.drew | apply IsS76.set_0 | apply IsS76.set_1 | apply IsS76.set_2 | apply IsS76.set_3 | apply IsS76.set_4 | apply IsS76.far (hne := NB0_300.out) | apply IsS76.far (hne := NB0_326.out)) | exact HI0.out)⟩, ⟨by repeat (first | (with_reducible first | exact HK.out | apply KeepBut.set_ | apply keep_drewN | apply keep_drew | apply keep_alloc | refine keep_far ?_ GW300.out _ | refine keep_far ?_ GW326.out _) | exact HK.out)⟩, ⟨by repeat (first | (with_reducible first | exact HB.out | apply below_alloc | apply pw_below_drewN | apply below_drew1 | refine below_set ?_ (IsS76.ge HI0.out) | refine below_set ?_ GE300.out | refine below_set ?_ GE326.out) | exact HB.out)⟩⟩
     ·replace c21 := Bool.eq_false_iff.mpr c21
      subst c21
      have H1 : (regex_reader_atom.j1 kj3 (wrap64 ((wrap64 (t304 + 1)) - 1)) true t329 t330 t331 t332 t333 t313 t314 t315 t316 t317 t318) = some (r1, r2, r3, r4, r5, r6, r7, r8, r9, r10, r11) := by rw [if_neg (show ¬ (false = true) by decide)] at H; exact H
      clear H
      have H := H1
      clear H1
      have H' := Aside0.mk H
      clear H
      go_wp2
      go_meet
      case rel => exact ⟨_, (true), qf9, H', ⟨by have := HJ3.out; first | omega | exact Nat.le_refl _⟩, ⟨by (with_reducible repeat (first | apply Kd.R_alloc | apply Kd.R_drewN | apply Kd.R_drew)); exact Kd.R_mono HO320.out (fun _ hk => ⟨hk.1.2, hk.2⟩)⟩, ⟨by (with_reducible repeat (first | refine blk_drewN ?_ _ | refine blk_drew ?_ | refine blk_alloc ?_ _)); exact BK300.out⟩, ⟨by (with_reducible repeat (first | refine blk_drewN ?_ _ | refine blk_drew ?_ | refine blk_alloc ?_ _)); exact BK326.out⟩, ⟨by repeat (first | (with_reducible first | exact HI0.out | apply IsS76.alloc | apply IsS76.drewN | apply IsS76.drew | apply IsS76.set_0 | apply IsS76.set_1 | apply IsS76.set_2 | apply IsS76.set_3 | apply IsS76.set_4 | apply IsS76.far (hne := NB0_300.out) | apply IsS76.far (hne := NB0_326.out)) | exact HI0.out)⟩, ⟨by repeat (first | (with_reducible first | exact HK.out | apply KeepBut.set_ | apply keep_drewN | apply keep_drew | apply keep_alloc | refine keep_far ?_ GW300.out _ | refine keep_far ?_ GW326.out _) | exact HK.out)⟩, ⟨by repeat (first | (with_reducible first | exact HB.out | apply below_alloc | apply pw_below_drewN | apply below_drew1 | refine below_set ?_ (IsS76.ge HI0.out) | refine below_set ?_ GE300.out | refine below_set ?_ GE326.out) | exact HB.out)⟩⟩
    case rest =>
     clear HC13
     try clear c1
     try clear c2
     try clear p2
     try clear c3
     try clear c3b0
     try clear c3b1
     try clear c4
     try clear p6
     try clear c8
     try clear c8b0
     try clear c16
     try clear c17
     try clear c21
     try clear hcz18_0
     try clear hcz18_1
     try clear hcz18_2
     try clear hcz18_3
     try clear hcz18_4
     try clear hcz18_5
     try clear hcz7_0
     try clear hcz7_1
     try clear hcz7_2
     try clear hcz7_3
     try clear hcz7_4
     try clear hfz18_0
     try clear hfz18_1
     try clear hfz18_2
     try clear hfz18_3
     try clear hfz18_4
     try clear hfz18_5
     try clear hfz7_0
     try clear hfz7_1
     try clear hfz7_2
     try clear hfz7_3
     try clear hfz7_4
     try clear p2
     try clear p6
     obtain ⟨kq, x56_12, rfl, HA, HJ12, HO_327005, BK300, BK326, HI0, HK, HB⟩ := hcut
     cases kq with
     | zero => exact absurd HA.out (by simp [regex_reader_atom.j1])
     | succ kj12 =>
      have H := HA.out
      clear HA
      simp only [regex_reader_atom.j1] at H
      by_cases c22 : x56_12 = true
      ·subst c22
       have H1 : ((regex_reader_fail.f t329 t330 t331 t332 t333 (wrap64 ((wrap64 (t304 + 1)) - 1)) 9).bind fun bt334 => (some (t313, t314, t315, t316, t317, t318, bt334.1, wrap64 (bt334.2.1 + 1), wrap64 (bt334.2.2.1 - 1), bt334.2.2.2.1, bt334.2.2.2.2))) = some (r1, r2, r3, r4, r5, r6, r7, r8, r9, r10, r11) := by rw [if_pos rfl] at H; exact H
       clear H
       have H := H1
       clear H1
       replace H := Option.bind_eq_some_iff.mp H
       obtain ⟨⟨t334, t335, t336, t337, t338⟩, A230, H⟩ := H
       replace H : (some (t313, t314, t315, t316, t317, t318, t334, wrap64 (t335 + 1), wrap64 (t336 - 1), t337, t338)) = some (r1, r2, r3, r4, r5, r6, r7, r8, r9, r10, r11) := H
       have A23 := Aside0.mk A230
       clear A230
       simp only [Option.some.injEq, Prod.mk.injEq] at H
       obtain ⟨rfl, rfl, rfl, rfl, rfl, rfl, rfl, rfl, rfl, rfl, rfl⟩ := H
       go_wp2_with (first | ((with_reducible refine gate_callee (f := 41) rfl ?_); refine goesL_ (some 59) rfl rfl Try.func41 (by kernel_rfl) rfl #[.pointer (some ⟨g, 0, none⟩), .int .i64 (wrap64 ((wrap64 (t304 + 1)) - 1)), .int .i64 9] rfl qf2 ?_; (with_reducible refine (regex_reader_fail.calls g t329 t330 t331 t332 t333 (wrap64 ((wrap64 (t304 + 1)) - 1)) 9 t334 t335 t336 t337 t338 w0 _ ?side1 ?side2 ?side3 A23.out).mono ?_); (case side1 => repeat (first | (with_reducible first | exact HI0.out | apply IsS76.alloc | apply IsS76.drewN | apply IsS76.drew | apply IsS76.set_0 | apply IsS76.set_1 | apply IsS76.set_2 | apply IsS76.set_3 | apply IsS76.set_4 | apply IsS76.far (hne := NB0_300.out) | apply IsS76.far (hne := NB0_326.out)) | exact HI0.out)); (case side2 => repeat (first | (with_reducible first | exact HB.out | apply below_alloc | apply pw_below_drewN | apply below_drew1 | refine below_set ?_ (IsS76.ge HI0.out) | refine below_set ?_ GE300.out | refine below_set ?_ GE326.out) | exact HB.out)); (case side3 => exact hT); rintro e w24 ⟨rfl, hi, hb, hk⟩; refine ⟨_, rfl, ?_⟩; have n0_ := Aside0.mk (Kd.R_mono (Kd.R_keep (IsS76.apart (show IsS76 w0 _ g t329 t330 t331 t332 t333 from by repeat (first | (with_reducible first | exact HI0.out | apply IsS76.alloc | apply IsS76.drewN | apply IsS76.drew | apply IsS76.set_0 | apply IsS76.set_1 | apply IsS76.set_2 | apply IsS76.set_3 | apply IsS76.set_4 | apply IsS76.far (hne := NB0_300.out) | apply IsS76.far (hne := NB0_326.out)) | exact HI0.out)) (by (with_reducible repeat (first | apply Kd.R_alloc | apply Kd.R_drewN | apply Kd.R_drew)); exact HO_327005.out) (by decide)) hk (fun _ h => h.2)) (fun _ h => h.1)); have n1_ := Aside0.mk (KeepBut.blk hk (g' := gb300) (o := .cells #[.int .i64 0, .int .u64 0, .int .u64 0, .int .u64 0, .int .u64 0, .slice none 0 0] 52 (0, 0)) qf3 NB300_0.out (by simp)); have n2_ := Aside0.mk (KeepBut.blk hk (g' := gb326) (o := .cells #[.int .i64 t313, .int .u64 t314, .int .u64 t315, .int .u64 t316, .int .u64 t317, .slice Ao19 t318.length co19] 52 (0, 0)) (by (with_reducible repeat (first | refine blk_drewN ?_ _ | refine blk_drew ?_ | refine blk_alloc ?_ _)); exact BK326.out) NB326_0.out (by simp)); have n3_ := Aside0.mk (KeepBut.trans qf11 hk (.inl rfl)); have n4_ := Aside0.mk (hb); have n5_ := Aside0.mk (hi); clear HO_327005; clear BK300; clear BK326; clear HK; clear HB; clear HI0; have HO_327005 := n0_; have BK300 := n1_; have BK326 := n2_; have HK := n3_; have HB := n4_; have HI0 := n5_; clear n0_ n1_ n2_ n3_ n4_ n5_; (try clear hb); (try clear hb2); (try clear hk); (try clear hi); obtain ⟨HGz25, hgz25⟩ := HI0.out; have hcz25_0 := cellS76_0 HGz25; have hcz25_1 := cellS76_1 HGz25; have hcz25_2 := cellS76_2 HGz25; have hcz25_3 := cellS76_3 HGz25; have hcz25_4 := cellS76_4 HGz25; have hfz25_0 := blk_frozen HGz25 0; have hfz25_1 := blk_frozen HGz25 1; have hfz25_2 := blk_frozen HGz25 2; have hfz25_3 := blk_frozen HGz25 3; have hfz25_4 := blk_frozen HGz25 4; clear HGz25 hgz25; have hnb26 := NB326_300.out; have hnc26 := NB300_326.out; have hnb27 := NB326_0.out; have hnc27 := NB0_326.out; have hcz28_0 : w24.cell? ⟨gb326, 0, none⟩ = some (.int .i64 t313) := (blk_cell BK326.out 0).trans rfl; have hcz28_1 : w24.cell? ⟨gb326, 1, none⟩ = some (.int .u64 t314) := (blk_cell BK326.out 1).trans rfl; have hcz28_2 : w24.cell? ⟨gb326, 2, none⟩ = some (.int .u64 t315) := (blk_cell BK326.out 2).trans rfl; have hcz28_3 : w24.cell? ⟨gb326, 3, none⟩ = some (.int .u64 t316) := (blk_cell BK326.out 3).trans rfl; have hcz28_4 : w24.cell? ⟨gb326, 4, none⟩ = some (.int .u64 t317) := (blk_cell BK326.out 4).trans rfl; have hcz28_5 : w24.cell? ⟨gb326, 5, none⟩ = some (.slice Ao19 t318.length co19) := (blk_cell BK326.out 5).trans rfl; have hfz28_0 := blk_frozen BK326.out 0; have hfz28_1 := blk_frozen BK326.out 1; have hfz28_2 := blk_frozen BK326.out 2; have hfz28_3 := blk_frozen BK326.out 3; have hfz28_4 := blk_frozen BK326.out 4; have hfz28_5 := blk_frozen BK326.out 5; have hnb29 := NB300_0.out; have hnc29 := NB0_300.out; have hcz30_0 : w24.cell? ⟨gb300, 0, none⟩ = some (.int .i64 0) := (blk_cell BK300.out 0).trans rfl; have hcz30_1 : w24.cell? ⟨gb300, 1, none⟩ = some (.int .u64 0) := (blk_cell BK300.out 1).trans rfl; have hcz30_2 : w24.cell? ⟨gb300, 2, none⟩ = some (.int .u64 0) := (blk_cell BK300.out 2).trans rfl; have hcz30_3 : w24.cell? ⟨gb300, 3, none⟩ = some (.int .u64 0) := (blk_cell BK300.out 3).trans rfl; have hcz30_4 : w24.cell? ⟨gb300, 4, none⟩ = some (.int .u64 0) := (blk_cell BK300.out 4).trans rfl; have hcz30_5 : w24.cell? ⟨gb300, 5, none⟩ = some (.slice none 0 0) := (blk_cell BK300.out 5).trans rfl; have hfz30_0 := blk_frozen BK300.out 0; have hfz30_1 := blk_frozen BK300.out 1; have hfz30_2 := blk_frozen BK300.out 2; have hfz30_3 := blk_frozen BK300.out 3; have hfz30_4 := blk_frozen BK300.out 4; have hfz30_5 := blk_frozen BK300.out 5))
       refine bodyPost_ret (results_cell_row rfl _ _ gb300 52 #[.int .i64 t313, .int .u64 t314, .int .u64 t315, .int .u64 t316, .int .u64 t317, .slice Ao19 t318.length co19] (0, 0) _ rfl qf4 Try.underlying52 rfl (by kernel_rfl)) rfl ?_
       exact ⟨_, by first | rfl | (simp [errW_none, errW_some] <;> rfl) | (simp [errW_none, errW_some] <;> first | rfl | exact isEmpty_bne _) | (simp [*, errW_none, errW_some] <;> rfl), by (with_reducible repeat (first | apply Kd.R_alloc | apply Kd.R_drewN | apply Kd.R_drew)); exact Kd.R_mono (Kd.R_far (p := ⟨gb300, 5, none⟩) (Kd.R_far (p := ⟨gb300, 4, none⟩) (Kd.R_far (p := ⟨gb300, 3, none⟩) (Kd.R_far (p := ⟨gb300, 2, none⟩) (Kd.R_far (p := ⟨gb300, 1, none⟩) (Kd.R_far (p := ⟨gb300, 0, none⟩) (Kd.R_far (p := ⟨g, 2, none⟩) (Kd.R_far (p := ⟨g, 1, none⟩) (Kd.R_mono (IsS76.apart HI0.out HO_327005.out (by decide)) (fun k_ hk => (⟨hk, hk.1.1⟩ : _ ∧ k_ ≠ gb300))) (fun _ hk => hk.1.2) (.int .i64 (wrap64 (t335 + 1)))) (fun _ hk => hk.1.2) (.int .i64 (wrap64 (t336 - 1)))) (fun _ hk => hk.2) (.int .i64 t313)) (fun _ hk => hk.2) (.int .u64 t314)) (fun _ hk => hk.2) (.int .u64 t315)) (fun _ hk => hk.2) (.int .u64 t316)) (fun _ hk => hk.2) (.int .u64 t317)) (fun _ hk => hk.2) (.slice Ao19 t318.length co19)) (fun _ hk => trivial), by repeat (first | (with_reducible first | exact HI0.out | apply IsS76.alloc | apply IsS76.drewN | apply IsS76.drew | apply IsS76.set_0 | apply IsS76.set_1 | apply IsS76.set_2 | apply IsS76.set_3 | apply IsS76.set_4 | apply IsS76.far (hne := NB0_300.out) | apply IsS76.far (hne := NB0_326.out)) | exact HI0.out), by repeat (first | (with_reducible first | exact HB.out | apply below_alloc | apply pw_below_drewN | apply below_drew1 | refine below_set ?_ (IsS76.ge HI0.out) | refine below_set ?_ GE300.out | refine below_set ?_ GE326.out) | exact HB.out), by repeat (first | (with_reducible first | exact HK.out | apply KeepBut.set_ | apply keep_drewN | apply keep_drew | apply keep_alloc | refine keep_far ?_ GW300.out _ | refine keep_far ?_ GW326.out _) | exact HK.out)⟩
      ·replace c22 := Bool.eq_false_iff.mpr c22
       subst c22
       have H1 : (some (t313, t314, t315, t316, t317, t318, t329, wrap64 (t330 + 1), wrap64 (t331 - 1), t332, t333)) = some (r1, r2, r3, r4, r5, r6, r7, r8, r9, r10, r11) := by rw [if_neg (show ¬ (false = true) by decide)] at H; exact H
       clear H
       have H := H1
       clear H1
       simp only [Option.some.injEq, Prod.mk.injEq] at H
       obtain ⟨rfl, rfl, rfl, rfl, rfl, rfl, rfl, rfl, rfl, rfl, rfl⟩ := H
       obtain ⟨HGz31, hgz31⟩ := HI0.out
       have hcz31_0 := cellS76_0 HGz31
       have hcz31_1 := cellS76_1 HGz31
       have hcz31_2 := cellS76_2 HGz31
       have hcz31_3 := cellS76_3 HGz31
       have hcz31_4 := cellS76_4 HGz31
       have hfz31_0 := blk_frozen HGz31 0
       have hfz31_1 := blk_frozen HGz31 1
       have hfz31_2 := blk_frozen HGz31 2
       have hfz31_3 := blk_frozen HGz31 3
       have hfz31_4 := blk_frozen HGz31 4
       clear HGz31 hgz31
       have hnb32 := NB326_300.out
       have hnc32 := NB300_326.out
       have hnb33 := NB326_0.out
       have hnc33 := NB0_326.out
       have hcz34_0 : wc.cell? ⟨gb326, 0, none⟩ = some (.int .i64 t313) := (blk_cell BK326.out 0).trans rfl
       have hcz34_1 : wc.cell? ⟨gb326, 1, none⟩ = some (.int .u64 t314) := (blk_cell BK326.out 1).trans rfl
       have hcz34_2 : wc.cell? ⟨gb326, 2, none⟩ = some (.int .u64 t315) := (blk_cell BK326.out 2).trans rfl
       have hcz34_3 : wc.cell? ⟨gb326, 3, none⟩ = some (.int .u64 t316) := (blk_cell BK326.out 3).trans rfl
       have hcz34_4 : wc.cell? ⟨gb326, 4, none⟩ = some (.int .u64 t317) := (blk_cell BK326.out 4).trans rfl
       have hcz34_5 : wc.cell? ⟨gb326, 5, none⟩ = some (.slice Ao19 t318.length co19) := (blk_cell BK326.out 5).trans rfl
       have hfz34_0 := blk_frozen BK326.out 0
       have hfz34_1 := blk_frozen BK326.out 1
       have hfz34_2 := blk_frozen BK326.out 2
       have hfz34_3 := blk_frozen BK326.out 3
       have hfz34_4 := blk_frozen BK326.out 4
       have hfz34_5 := blk_frozen BK326.out 5
       have hnb35 := NB300_0.out
       have hnc35 := NB0_300.out
       have hcz36_0 : wc.cell? ⟨gb300, 0, none⟩ = some (.int .i64 0) := (blk_cell BK300.out 0).trans rfl
       have hcz36_1 : wc.cell? ⟨gb300, 1, none⟩ = some (.int .u64 0) := (blk_cell BK300.out 1).trans rfl
       have hcz36_2 : wc.cell? ⟨gb300, 2, none⟩ = some (.int .u64 0) := (blk_cell BK300.out 2).trans rfl
       have hcz36_3 : wc.cell? ⟨gb300, 3, none⟩ = some (.int .u64 0) := (blk_cell BK300.out 3).trans rfl
       have hcz36_4 : wc.cell? ⟨gb300, 4, none⟩ = some (.int .u64 0) := (blk_cell BK300.out 4).trans rfl
       have hcz36_5 : wc.cell? ⟨gb300, 5, none⟩ = some (.slice none 0 0) := (blk_cell BK300.out 5).trans rfl
       have hfz36_0 := blk_frozen BK300.out 0
       have hfz36_1 := blk_frozen BK300.out 1
       have hfz36_2 := blk_frozen BK300.out 2
       have hfz36_3 := blk_frozen BK300.out 3
       have hfz36_4 := blk_frozen BK300.out 4
       have hfz36_5 := blk_frozen BK300.out 5
       go_wp2
       refine bodyPost_ret (results_cell_row rfl _ _ gb300 52 #[.int .i64 t313, .int .u64 t314, .int .u64 t315, .int .u64 t316, .int .u64 t317, .slice Ao19 t318.length co19] (0, 0) _ rfl qf4 Try.underlying52 rfl (by kernel_rfl)) rfl ?_
       exact ⟨_, by first | rfl | (simp [errW_none, errW_some] <;> rfl) | (simp [errW_none, errW_some] <;> first | rfl | exact isEmpty_bne _) | (simp [*, errW_none, errW_some] <;> rfl), by (with_reducible repeat (first | apply Kd.R_alloc | apply Kd.R_drewN | apply Kd.R_drew)); exact Kd.R_mono (Kd.R_far (p := ⟨gb300, 5, none⟩) (Kd.R_far (p := ⟨gb300, 4, none⟩) (Kd.R_far (p := ⟨gb300, 3, none⟩) (Kd.R_far (p := ⟨gb300, 2, none⟩) (Kd.R_far (p := ⟨gb300, 1, none⟩) (Kd.R_far (p := ⟨gb300, 0, none⟩) (Kd.R_far (p := ⟨g, 2, none⟩) (Kd.R_far (p := ⟨g, 1, none⟩) (Kd.R_mono (IsS76.apart HI0.out HO_327005.out (by decide)) (fun k_ hk => (⟨hk, hk.1.1⟩ : _ ∧ k_ ≠ gb300))) (fun _ hk => hk.1.2) (.int .i64 (wrap64 (t330 + 1)))) (fun _ hk => hk.1.2) (.int .i64 (wrap64 (t331 - 1)))) (fun _ hk => hk.2) (.int .i64 t313)) (fun _ hk => hk.2) (.int .u64 t314)) (fun _ hk => hk.2) (.int .u64 t315)) (fun _ hk => hk.2) (.int .u64 t316)) (fun _ hk => hk.2) (.int .u64 t317)) (fun _ hk => hk.2) (.slice Ao19 t318.length co19)) (fun _ hk => trivial), by repeat (first | (with_reducible first | exact HI0.out | apply IsS76.alloc | apply IsS76.drewN | apply IsS76.drew | apply IsS76.set_0 | apply IsS76.set_1 | apply IsS76.set_2 | apply IsS76.set_3 | apply IsS76.set_4 | apply IsS76.far (hne := NB0_300.out) | apply IsS76.far (hne := NB0_326.out)) | exact HI0.out), by repeat (first | (with_reducible first | exact HB.out | apply below_alloc | apply pw_below_drewN | apply below_drew1 | refine below_set ?_ (IsS76.ge HI0.out) | refine below_set ?_ GE300.out | refine below_set ?_ GE326.out) | exact HB.out), by repeat (first | (with_reducible first | exact HK.out | apply KeepBut.set_ | apply keep_drewN | apply keep_drew | apply keep_alloc | refine keep_far ?_ GW300.out _ | refine keep_far ?_ GW326.out _) | exact HK.out)⟩
 ·rw [if_neg c3] at H
  have c3b0 : (t301 == 40) = false := beq_eq_false_iff_ne.mpr c3
  have c3b1 : (t301 != 40) = true := bne_iff_ne.mpr c3
  by_cases c37 : t301 = 91
  ·rw [if_pos c37] at H
   have c37b0 : (t301 == 91) = true := beq_iff_eq.mpr c37
   have c37b1 : (t301 != 91) = false := bne_eq_false_iff_eq.mpr c37
   clear c37
   replace H := Option.bind_eq_some_iff.mp H
   obtain ⟨⟨t339, t340, t341, t342, t343, t344, t345, t346, t347⟩, A380, H⟩ := H
   replace H : (some (1, t339, t340, t341, t342, ([] : List (S52)), t343, t344, t345, t346, t347)) = some (r1, r2, r3, r4, r5, r6, r7, r8, r9, r10, r11) := H
   have A38 := Aside0.mk A380
   clear A380
   simp only [Option.some.injEq, Prod.mk.injEq] at H
   obtain ⟨rfl, rfl, rfl, rfl, rfl, rfl, rfl, rfl, rfl, rfl, rfl⟩ := H
   go_enter Try.func42, Try.ntmps42
   go_wp2_with (first | ((with_reducible refine gate_dst (N := 2) rfl ?_); refine box_event ?hg (N := 2) ?hd (cs := #[.int .i64 0, .int .u64 0, .int .u64 0, .int .u64 0, .int .u64 0, .slice none 0 0]) (t := 52) ?hr ?_; (case hd => rfl); (case hg => rfl); (case hr => first | (go_simp; done) | (go_simp; rfl)); intro gb300 hg w39 hbox hb; have n0_ := Aside0.mk (IsS76.below qf6 hb); have n1_ := Aside0.mk (KeepBut.trans qf1 (KeepBut.of_below hb g none) (.inl rfl)); have n2_ := Aside0.mk (below_step qf7 hb); have n3_ := Aside0.mk (hbox); have n4_ := Aside0.mk ((by rw [hg]; exact (keep_size (w := w) (g := g) (row := none) qf1) : w.heap.size ≤ gb300)); have n5_ := Aside0.mk ((Nat.le_trans HW0.out (by rw [hg]; exact (keep_size (w := w) (g := g) (row := none) qf1) : w.heap.size ≤ gb300) : w0.heap.size ≤ gb300)); have n6_ := Aside0.mk ((by rw [hg]; exact Nat.ne_of_lt (IsS76.lt (show IsS76 w0 _ g s0_0 s0_1 s0_2 s0_3 s0_4 from by repeat (first | (with_reducible first | exact HI0.out | apply IsS76.alloc | apply IsS76.drewN | apply IsS76.drew | apply IsS76.set_0 | apply IsS76.set_1 | apply IsS76.set_2 | apply IsS76.set_3 | apply IsS76.set_4) | exact HI0.out))) : g ≠ gb300)); have n7_ := Aside0.mk ((by rw [hg]; exact Nat.ne_of_gt (IsS76.lt (show IsS76 w0 _ g s0_0 s0_1 s0_2 s0_3 s0_4 from by repeat (first | (with_reducible first | exact HI0.out | apply IsS76.alloc | apply IsS76.drewN | apply IsS76.drew | apply IsS76.set_0 | apply IsS76.set_1 | apply IsS76.set_2 | apply IsS76.set_3 | apply IsS76.set_4) | exact HI0.out))) : gb300 ≠ g)); clear HI0; clear HK; clear HB; have HI0 := n0_; have HK := n1_; have HB := n2_; have BK300 := n3_; have GW300 := n4_; have GE300 := n5_; have NB0_300 := n6_; have NB300_0 := n7_; clear n0_ n1_ n2_ n3_ n4_ n5_ n6_ n7_; clear hb hbox hg) | ((with_reducible refine gate_callee (f := 36) rfl ?_); refine goesL_ (some 11) rfl rfl Try.func36 (by kernel_rfl) rfl #[.pointer (some ⟨g, 0, none⟩)] rfl qf2 ?_; (with_reducible refine (regex_reader_next.calls g s0_0 s0_1 s0_2 s0_3 s0_4 t301 t302 t303 t304 t305 t306 t307 w0 _ ?side1 ?side2 ?side3 A2.out).mono ?_); (case side1 => repeat (first | (with_reducible first | exact HI0.out | apply IsS76.alloc | apply IsS76.drewN | apply IsS76.drew | apply IsS76.set_0 | apply IsS76.set_1 | apply IsS76.set_2 | apply IsS76.set_3 | apply IsS76.set_4 | apply IsS76.far (hne := NB0_300.out)) | exact HI0.out)); (case side2 => repeat (first | (with_reducible first | exact HB.out | apply below_alloc | apply pw_below_drewN | apply below_drew1 | refine below_set ?_ (IsS76.ge HI0.out) | refine below_set ?_ GE300.out) | exact HB.out)); (case side3 => exact hT); rintro e w40 ⟨rfl, hi, hb, hk⟩; refine ⟨_, rfl, ?_⟩; have n0_ := Aside0.mk (KeepBut.blk hk (g' := gb300) (o := .cells #[.int .i64 0, .int .u64 0, .int .u64 0, .int .u64 0, .int .u64 0, .slice none 0 0] 52 (0, 0)) qf3 NB300_0.out (by simp)); have n1_ := Aside0.mk (KeepBut.trans qf0 hk (.inl rfl)); have n2_ := Aside0.mk (hb); have n3_ := Aside0.mk (hi); clear BK300; clear HK; clear HB; clear HI0; have BK300 := n0_; have HK := n1_; have HB := n2_; have HI0 := n3_; clear n0_ n1_ n2_ n3_; (try clear hb); (try clear hb2); (try clear hk); (try clear hi); obtain ⟨HGz41, hgz41⟩ := HI0.out; have hcz41_0 := cellS76_0 HGz41; have hcz41_1 := cellS76_1 HGz41; have hcz41_2 := cellS76_2 HGz41; have hcz41_3 := cellS76_3 HGz41; have hcz41_4 := cellS76_4 HGz41; have hfz41_0 := blk_frozen HGz41 0; have hfz41_1 := blk_frozen HGz41 1; have hfz41_2 := blk_frozen HGz41 2; have hfz41_3 := blk_frozen HGz41 3; have hfz41_4 := blk_frozen HGz41 4; clear HGz41 hgz41) | ((with_reducible refine gate_callee (f := 48) rfl ?_); refine goesL_ (some 78) rfl rfl Try.func48 (by kernel_rfl) rfl #[.pointer (some ⟨g, 0, none⟩)] rfl qf2 ?_; (with_reducible refine (regex_reader_set.calls k g t303 (wrap64 (t304 + 1)) t305 t306 t307 t339 t340 t341 t342 t343 t344 t345 t346 t347 w0 _ ?side1 ?side2 ?side3 A38.out).mono ?_); (case side1 => repeat (first | (with_reducible first | exact HI0.out | apply IsS76.alloc | apply IsS76.drewN | apply IsS76.drew | apply IsS76.set_0 | apply IsS76.set_1 | apply IsS76.set_2 | apply IsS76.set_3 | apply IsS76.set_4 | apply IsS76.far (hne := NB0_300.out)) | exact HI0.out)); (case side2 => repeat (first | (with_reducible first | exact HB.out | apply below_alloc | apply pw_below_drewN | apply below_drew1 | refine below_set ?_ (IsS76.ge HI0.out) | refine below_set ?_ GE300.out) | exact HB.out)); (case side3 => exact hT); rintro e w42 ⟨rfl, hi, hb, hk⟩; refine ⟨_, rfl, ?_⟩; have n0_ := Aside0.mk (KeepBut.blk hk (g' := gb300) (o := .cells #[.int .i64 0, .int .u64 0, .int .u64 0, .int .u64 0, .int .u64 0, .slice none 0 0] 52 (0, 0)) qf10 NB300_0.out (by simp)); have n1_ := Aside0.mk (KeepBut.trans qf0 hk (.inl rfl)); have n2_ := Aside0.mk (hb); have n3_ := Aside0.mk (hi); clear BK300; clear HK; clear HB; clear HI0; have BK300 := n0_; have HK := n1_; have HB := n2_; have HI0 := n3_; clear n0_ n1_ n2_ n3_; (try clear hb); (try clear hb2); (try clear hk); (try clear hi); have hnb43 := NB300_0.out; have hnc43 := NB0_300.out; have hcz44_0 : w42.cell? ⟨gb300, 0, none⟩ = some (.int .i64 0) := (blk_cell BK300.out 0).trans rfl; have hcz44_1 : w42.cell? ⟨gb300, 1, none⟩ = some (.int .u64 0) := (blk_cell BK300.out 1).trans rfl; have hcz44_2 : w42.cell? ⟨gb300, 2, none⟩ = some (.int .u64 0) := (blk_cell BK300.out 2).trans rfl; have hcz44_3 : w42.cell? ⟨gb300, 3, none⟩ = some (.int .u64 0) := (blk_cell BK300.out 3).trans rfl; have hcz44_4 : w42.cell? ⟨gb300, 4, none⟩ = some (.int .u64 0) := (blk_cell BK300.out 4).trans rfl; have hcz44_5 : w42.cell? ⟨gb300, 5, none⟩ = some (.slice none 0 0) := (blk_cell BK300.out 5).trans rfl; have hfz44_0 := blk_frozen BK300.out 0; have hfz44_1 := blk_frozen BK300.out 1; have hfz44_2 := blk_frozen BK300.out 2; have hfz44_3 := blk_frozen BK300.out 3; have hfz44_4 := blk_frozen BK300.out 4; have hfz44_5 := blk_frozen BK300.out 5))
   refine bodyPost_ret (results_cell_row rfl _ _ gb300 52 #[.int .i64 1, .int .u64 t339, .int .u64 t340, .int .u64 t341, .int .u64 t342, .slice none 0 0] (0, 0) _ rfl (by (with_reducible repeat (first | refine blk_drewN ?_ _ | refine blk_drew ?_ | refine blk_alloc ?_ _)); refine blk_put (cs := #[.int .i64 1, .int .u64 t339, .int .u64 t340, .int .u64 t341, .int .u64 t342, .slice none 0 0]) ?_ 5 _ rfl; (with_reducible repeat (first | refine blk_drewN ?_ _ | refine blk_drew ?_ | refine blk_alloc ?_ _)); refine blk_put (cs := #[.int .i64 1, .int .u64 t339, .int .u64 t340, .int .u64 t341, .int .u64 0, .slice none 0 0]) ?_ 4 _ rfl; (with_reducible repeat (first | refine blk_drewN ?_ _ | refine blk_drew ?_ | refine blk_alloc ?_ _)); refine blk_put (cs := #[.int .i64 1, .int .u64 t339, .int .u64 t340, .int .u64 0, .int .u64 0, .slice none 0 0]) ?_ 3 _ rfl; (with_reducible repeat (first | refine blk_drewN ?_ _ | refine blk_drew ?_ | refine blk_alloc ?_ _)); refine blk_put (cs := #[.int .i64 1, .int .u64 t339, .int .u64 0, .int .u64 0, .int .u64 0, .slice none 0 0]) ?_ 2 _ rfl; (with_reducible repeat (first | refine blk_drewN ?_ _ | refine blk_drew ?_ | refine blk_alloc ?_ _)); refine blk_put (cs := #[.int .i64 1, .int .u64 0, .int .u64 0, .int .u64 0, .int .u64 0, .slice none 0 0]) ?_ 1 _ rfl; (with_reducible repeat (first | refine blk_drewN ?_ _ | refine blk_drew ?_ | refine blk_alloc ?_ _)); refine blk_put (cs := #[.int .i64 0, .int .u64 0, .int .u64 0, .int .u64 0, .int .u64 0, .slice none 0 0]) ?_ 0 _ rfl; (with_reducible repeat (first | refine blk_drewN ?_ _ | refine blk_drew ?_ | refine blk_alloc ?_ _)); exact BK300.out) Try.underlying52 rfl (by kernel_rfl)) rfl ?_
   exact ⟨_, by first | rfl | (simp [errW_none, errW_some] <;> rfl) | (simp [errW_none, errW_some] <;> first | rfl | exact isEmpty_bne _) | (simp [*, errW_none, errW_some] <;> rfl), by first | exact Kd.R_nil _ _ _ _ _ | exact Kd.N_nil _ _ _ _ _ | exact Kd.V_nil _ _ _ _ _ | exact Kd.Q_nil _ _ _ _ _ | exact Kd.S_nil _ _ _ _ _, by repeat (first | (with_reducible first | exact HI0.out | apply IsS76.alloc | apply IsS76.drewN | apply IsS76.drew | apply IsS76.set_0 | apply IsS76.set_1 | apply IsS76.set_2 | apply IsS76.set_3 | apply IsS76.set_4 | apply IsS76.far (hne := NB0_300.out)) | exact HI0.out), by repeat (first | (with_reducible first | exact HB.out | apply below_alloc | apply pw_below_drewN | apply below_drew1 | refine below_set ?_ (IsS76.ge HI0.out) | refine below_set ?_ GE300.out) | exact HB.out), by repeat (first | (with_reducible first | exact HK.out | apply KeepBut.set_ | apply keep_drewN | apply keep_drew | apply keep_alloc | refine keep_far ?_ GW300.out _) | exact HK.out)⟩
  ·rw [if_neg c37] at H
   have c37b0 : (t301 == 91) = false := beq_eq_false_iff_ne.mpr c37
   have c37b1 : (t301 != 91) = true := bne_iff_ne.mpr c37
   by_cases c45 : t301 = 46
   ·rw [if_pos c45] at H
    have c45b0 : (t301 == 46) = true := beq_iff_eq.mpr c45
    have c45b1 : (t301 != 46) = false := bne_eq_false_iff_eq.mpr c45
    clear c45
    replace H := Option.bind_eq_some_iff.mp H
    obtain ⟨⟨t348, t349, t350, t351⟩, A460, H⟩ := H
    replace H : (some (1, t348, t349, t350, t351, ([] : List (S52)), t303, wrap64 (t304 + 1), t305, t306, t307)) = some (r1, r2, r3, r4, r5, r6, r7, r8, r9, r10, r11) := H
    have A46 := Aside0.mk A460
    clear A460
    simp only [Option.some.injEq, Prod.mk.injEq] at H
    obtain ⟨rfl, rfl, rfl, rfl, rfl, rfl, rfl, rfl, rfl, rfl, rfl⟩ := H
    go_enter Try.func42, Try.ntmps42
    go_wp2_with (first | ((with_reducible refine gate_dst (N := 2) rfl ?_); refine box_event ?hg (N := 2) ?hd (cs := #[.int .i64 0, .int .u64 0, .int .u64 0, .int .u64 0, .int .u64 0, .slice none 0 0]) (t := 52) ?hr ?_; (case hd => rfl); (case hg => rfl); (case hr => first | (go_simp; done) | (go_simp; rfl)); intro gb300 hg w47 hbox hb; have n0_ := Aside0.mk (IsS76.below qf6 hb); have n1_ := Aside0.mk (KeepBut.trans qf1 (KeepBut.of_below hb g none) (.inl rfl)); have n2_ := Aside0.mk (below_step qf7 hb); have n3_ := Aside0.mk (hbox); have n4_ := Aside0.mk ((by rw [hg]; exact (keep_size (w := w) (g := g) (row := none) qf1) : w.heap.size ≤ gb300)); have n5_ := Aside0.mk ((Nat.le_trans HW0.out (by rw [hg]; exact (keep_size (w := w) (g := g) (row := none) qf1) : w.heap.size ≤ gb300) : w0.heap.size ≤ gb300)); have n6_ := Aside0.mk ((by rw [hg]; exact Nat.ne_of_lt (IsS76.lt (show IsS76 w0 _ g s0_0 s0_1 s0_2 s0_3 s0_4 from by repeat (first | (with_reducible first | exact HI0.out | apply IsS76.alloc | apply IsS76.drewN | apply IsS76.drew | apply IsS76.set_0 | apply IsS76.set_1 | apply IsS76.set_2 | apply IsS76.set_3 | apply IsS76.set_4) | exact HI0.out))) : g ≠ gb300)); have n7_ := Aside0.mk ((by rw [hg]; exact Nat.ne_of_gt (IsS76.lt (show IsS76 w0 _ g s0_0 s0_1 s0_2 s0_3 s0_4 from by repeat (first | (with_reducible first | exact HI0.out | apply IsS76.alloc | apply IsS76.drewN | apply IsS76.drew | apply IsS76.set_0 | apply IsS76.set_1 | apply IsS76.set_2 | apply IsS76.set_3 | apply IsS76.set_4) | exact HI0.out))) : gb300 ≠ g)); clear HI0; clear HK; clear HB; have HI0 := n0_; have HK := n1_; have HB := n2_; have BK300 := n3_; have GW300 := n4_; have GE300 := n5_; have NB0_300 := n6_; have NB300_0 := n7_; clear n0_ n1_ n2_ n3_ n4_ n5_ n6_ n7_; clear hb hbox hg) | ((with_reducible refine gate_callee (f := 36) rfl ?_); refine goesL_ (some 11) rfl rfl Try.func36 (by kernel_rfl) rfl #[.pointer (some ⟨g, 0, none⟩)] rfl qf2 ?_; (with_reducible refine (regex_reader_next.calls g s0_0 s0_1 s0_2 s0_3 s0_4 t301 t302 t303 t304 t305 t306 t307 w0 _ ?side1 ?side2 ?side3 A2.out).mono ?_); (case side1 => repeat (first | (with_reducible first | exact HI0.out | apply IsS76.alloc | apply IsS76.drewN | apply IsS76.drew | apply IsS76.set_0 | apply IsS76.set_1 | apply IsS76.set_2 | apply IsS76.set_3 | apply IsS76.set_4 | apply IsS76.far (hne := NB0_300.out)) | exact HI0.out)); (case side2 => repeat (first | (with_reducible first | exact HB.out | apply below_alloc | apply pw_below_drewN | apply below_drew1 | refine below_set ?_ (IsS76.ge HI0.out) | refine below_set ?_ GE300.out) | exact HB.out)); (case side3 => exact hT); rintro e w48 ⟨rfl, hi, hb, hk⟩; refine ⟨_, rfl, ?_⟩; have n0_ := Aside0.mk (KeepBut.blk hk (g' := gb300) (o := .cells #[.int .i64 0, .int .u64 0, .int .u64 0, .int .u64 0, .int .u64 0, .slice none 0 0] 52 (0, 0)) qf3 NB300_0.out (by simp)); have n1_ := Aside0.mk (KeepBut.trans qf0 hk (.inl rfl)); have n2_ := Aside0.mk (hb); have n3_ := Aside0.mk (hi); clear BK300; clear HK; clear HB; clear HI0; have BK300 := n0_; have HK := n1_; have HB := n2_; have HI0 := n3_; clear n0_ n1_ n2_ n3_; (try clear hb); (try clear hb2); (try clear hk); (try clear hi); obtain ⟨HGz49, hgz49⟩ := HI0.out; have hcz49_0 := cellS76_0 HGz49; have hcz49_1 := cellS76_1 HGz49; have hcz49_2 := cellS76_2 HGz49; have hcz49_3 := cellS76_3 HGz49; have hcz49_4 := cellS76_4 HGz49; have hfz49_0 := blk_frozen HGz49 0; have hfz49_1 := blk_frozen HGz49 1; have hfz49_2 := blk_frozen HGz49 2; have hfz49_3 := blk_frozen HGz49 3; have hfz49_4 := blk_frozen HGz49 4; clear HGz49 hgz49) | ((with_reducible refine gate_callee (f := 49) rfl ?_); refine goesL_ (some 83) rfl rfl Try.func49 (by kernel_rfl) rfl #[.agg #[.int .u64 0, .int .u64 0, .int .u64 0, .int .u64 0]] rfl qf2 ?_; (with_reducible refine (regex_Set_Not.calls 0 0 0 0 t348 t349 t350 t351 _ ?side1 A46.out).mono ?_); (case side1 => exact TB.below hT qf5); rintro e w50 ⟨rfl, hb⟩; refine ⟨_, rfl, ?_⟩; have n0_ := Aside0.mk (IsS76.below (show IsS76 w0 (w48.setCell ⟨g, 1, none⟩ (.int .i64 (wrap64 (t304 + 1)))) g t303 (wrap64 (t304 + 1)) t305 t306 t307 from by repeat (first | (with_reducible first | exact HI0.out | apply IsS76.alloc | apply IsS76.drewN | apply IsS76.drew | apply IsS76.set_0 | apply IsS76.set_1 | apply IsS76.set_2 | apply IsS76.set_3 | apply IsS76.set_4 | apply IsS76.far (hne := NB0_300.out)) | exact HI0.out)) hb); have n1_ := Aside0.mk (blk_below (g := gb300) (o := .cells #[.int .i64 0, .int .u64 0, .int .u64 0, .int .u64 0, .int .u64 0, .slice none 0 0] 52 (0, 0)) qf10 hb); have n2_ := Aside0.mk (KeepBut.trans qf0 (KeepBut.of_below hb g none) (.inl rfl)); have n3_ := Aside0.mk (below_step qf5 hb); clear HI0; clear BK300; clear HK; clear HB; have HI0 := n0_; have BK300 := n1_; have HK := n2_; have HB := n3_; clear n0_ n1_ n2_ n3_; (try clear hb); (try clear hb2); (try clear hk); (try clear hi); have hnb51 := NB300_0.out; have hnc51 := NB0_300.out; have hcz52_0 : w50.cell? ⟨gb300, 0, none⟩ = some (.int .i64 0) := (blk_cell BK300.out 0).trans rfl; have hcz52_1 : w50.cell? ⟨gb300, 1, none⟩ = some (.int .u64 0) := (blk_cell BK300.out 1).trans rfl; have hcz52_2 : w50.cell? ⟨gb300, 2, none⟩ = some (.int .u64 0) := (blk_cell BK300.out 2).trans rfl; have hcz52_3 : w50.cell? ⟨gb300, 3, none⟩ = some (.int .u64 0) := (blk_cell BK300.out 3).trans rfl; have hcz52_4 : w50.cell? ⟨gb300, 4, none⟩ = some (.int .u64 0) := (blk_cell BK300.out 4).trans rfl; have hcz52_5 : w50.cell? ⟨gb300, 5, none⟩ = some (.slice none 0 0) := (blk_cell BK300.out 5).trans rfl; have hfz52_0 := blk_frozen BK300.out 0; have hfz52_1 := blk_frozen BK300.out 1; have hfz52_2 := blk_frozen BK300.out 2; have hfz52_3 := blk_frozen BK300.out 3; have hfz52_4 := blk_frozen BK300.out 4; have hfz52_5 := blk_frozen BK300.out 5))
    refine bodyPost_ret (results_cell_row rfl _ _ gb300 52 #[.int .i64 1, .int .u64 t348, .int .u64 t349, .int .u64 t350, .int .u64 t351, .slice none 0 0] (0, 0) _ rfl (by (with_reducible repeat (first | refine blk_drewN ?_ _ | refine blk_drew ?_ | refine blk_alloc ?_ _)); refine blk_put (cs := #[.int .i64 1, .int .u64 t348, .int .u64 t349, .int .u64 t350, .int .u64 t351, .slice none 0 0]) ?_ 5 _ rfl; (with_reducible repeat (first | refine blk_drewN ?_ _ | refine blk_drew ?_ | refine blk_alloc ?_ _)); refine blk_put (cs := #[.int .i64 1, .int .u64 t348, .int .u64 t349, .int .u64 t350, .int .u64 0, .slice none 0 0]) ?_ 4 _ rfl; (with_reducible repeat (first | refine blk_drewN ?_ _ | refine blk_drew ?_ | refine blk_alloc ?_ _)); refine blk_put (cs := #[.int .i64 1, .int .u64 t348, .int .u64 t349, .int .u64 0, .int .u64 0, .slice none 0 0]) ?_ 3 _ rfl; (with_reducible repeat (first | refine blk_drewN ?_ _ | refine blk_drew ?_ | refine blk_alloc ?_ _)); refine blk_put (cs := #[.int .i64 1, .int .u64 t348, .int .u64 0, .int .u64 0, .int .u64 0, .slice none 0 0]) ?_ 2 _ rfl; (with_reducible repeat (first | refine blk_drewN ?_ _ | refine blk_drew ?_ | refine blk_alloc ?_ _)); refine blk_put (cs := #[.int .i64 1, .int .u64 0, .int .u64 0, .int .u64 0, .int .u64 0, .slice none 0 0]) ?_ 1 _ rfl; (with_reducible repeat (first | refine blk_drewN ?_ _ | refine blk_drew ?_ | refine blk_alloc ?_ _)); refine blk_put (cs := #[.int .i64 0, .int .u64 0, .int .u64 0, .int .u64 0, .int .u64 0, .slice none 0 0]) ?_ 0 _ rfl; (with_reducible repeat (first | refine blk_drewN ?_ _ | refine blk_drew ?_ | refine blk_alloc ?_ _)); exact BK300.out) Try.underlying52 rfl (by kernel_rfl)) rfl ?_
    exact ⟨_, by first | rfl | (simp [errW_none, errW_some] <;> rfl) | (simp [errW_none, errW_some] <;> first | rfl | exact isEmpty_bne _) | (simp [*, errW_none, errW_some] <;> rfl), by first | exact Kd.R_nil _ _ _ _ _ | exact Kd.N_nil _ _ _ _ _ | exact Kd.V_nil _ _ _ _ _ | exact Kd.Q_nil _ _ _ _ _ | exact Kd.S_nil _ _ _ _ _, by repeat (first | (with_reducible first | exact HI0.out | apply IsS76.alloc | apply IsS76.drewN | apply IsS76.drew | apply IsS76.set_0 | apply IsS76.set_1 | apply IsS76.set_2 | apply IsS76.set_3 | apply IsS76.set_4 | apply IsS76.far (hne := NB0_300.out)) | exact HI0.out), by repeat (first | (with_reducible first | exact HB.out | apply below_alloc | apply pw_below_drewN | apply below_drew1 | refine below_set ?_ (IsS76.ge HI0.out) | refine below_set ?_ GE300.out) | exact HB.out), by repeat (first | (with_reducible first | exact HK.out | apply KeepBut.set_ | apply keep_drewN | apply keep_drew | apply keep_alloc | refine keep_far ?_ GW300.out _) | exact HK.out)⟩
   ·rw [if_neg c45] at H
    have c45b0 : (t301 == 46) = false := beq_eq_false_iff_ne.mpr c45
    have c45b1 : (t301 != 46) = true := bne_iff_ne.mpr c45
    by_cases c53 : t301 = 94
    ·rw [if_pos c53] at H
     have c53b0 : (t301 == 94) = true := beq_iff_eq.mpr c53
     have c53b1 : (t301 != 94) = false := bne_eq_false_iff_eq.mpr c53
     clear c53
     simp only [Option.some.injEq, Prod.mk.injEq] at H
     obtain ⟨rfl, rfl, rfl, rfl, rfl, rfl, rfl, rfl, rfl, rfl, rfl⟩ := H
     go_enter Try.func42, Try.ntmps42
     go_wp2_with (first | ((with_reducible refine gate_dst (N := 2) rfl ?_); refine box_event ?hg (N := 2) ?hd (cs := #[.int .i64 0, .int .u64 0, .int .u64 0, .int .u64 0, .int .u64 0, .slice none 0 0]) (t := 52) ?hr ?_; (case hd => rfl); (case hg => rfl); (case hr => first | (go_simp; done) | (go_simp; rfl)); intro gb300 hg w54 hbox hb; have n0_ := Aside0.mk (IsS76.below qf6 hb); have n1_ := Aside0.mk (KeepBut.trans qf1 (KeepBut.of_below hb g none) (.inl rfl)); have n2_ := Aside0.mk (below_step qf7 hb); have n3_ := Aside0.mk (hbox); have n4_ := Aside0.mk ((by rw [hg]; exact (keep_size (w := w) (g := g) (row := none) qf1) : w.heap.size ≤ gb300)); have n5_ := Aside0.mk ((Nat.le_trans HW0.out (by rw [hg]; exact (keep_size (w := w) (g := g) (row := none) qf1) : w.heap.size ≤ gb300) : w0.heap.size ≤ gb300)); have n6_ := Aside0.mk ((by rw [hg]; exact Nat.ne_of_lt (IsS76.lt (show IsS76 w0 _ g s0_0 s0_1 s0_2 s0_3 s0_4 from by repeat (first | (with_reducible first | exact HI0.out | apply IsS76.alloc | apply IsS76.drewN | apply IsS76.drew | apply IsS76.set_0 | apply IsS76.set_1 | apply IsS76.set_2 | apply IsS76.set_3 | apply IsS76.set_4) | exact HI0.out))) : g ≠ gb300)); have n7_ := Aside0.mk ((by rw [hg]; exact Nat.ne_of_gt (IsS76.lt (show IsS76 w0 _ g s0_0 s0_1 s0_2 s0_3 s0_4 from by repeat (first | (with_reducible first | exact HI0.out | apply IsS76.alloc | apply IsS76.drewN | apply IsS76.drew | apply IsS76.set_0 | apply IsS76.set_1 | apply IsS76.set_2 | apply IsS76.set_3 | apply IsS76.set_4) | exact HI0.out))) : gb300 ≠ g)); clear HI0; clear HK; clear HB; have HI0 := n0_; have HK := n1_; have HB := n2_; have BK300 := n3_; have GW300 := n4_; have GE300 := n5_; have NB0_300 := n6_; have NB300_0 := n7_; clear n0_ n1_ n2_ n3_ n4_ n5_ n6_ n7_; clear hb hbox hg) | ((with_reducible refine gate_callee (f := 36) rfl ?_); refine goesL_ (some 11) rfl rfl Try.func36 (by kernel_rfl) rfl #[.pointer (some ⟨g, 0, none⟩)] rfl qf2 ?_; (with_reducible refine (regex_reader_next.calls g s0_0 s0_1 s0_2 s0_3 s0_4 t301 t302 t303 t304 t305 t306 t307 w0 _ ?side1 ?side2 ?side3 A2.out).mono ?_); (case side1 => repeat (first | (with_reducible first | exact HI0.out | apply IsS76.alloc | apply IsS76.drewN | apply IsS76.drew | apply IsS76.set_0 | apply IsS76.set_1 | apply IsS76.set_2 | apply IsS76.set_3 | apply IsS76.set_4 | apply IsS76.far (hne := NB0_300.out)) | exact HI0.out)); (case side2 => repeat (first | (with_reducible first | exact HB.out | apply below_alloc | apply pw_below_drewN | apply below_drew1 | refine below_set ?_ (IsS76.ge HI0.out) | refine below_set ?_ GE300.out) | exact HB.out)); (case side3 => exact hT); rintro e w55 ⟨rfl, hi, hb, hk⟩; refine ⟨_, rfl, ?_⟩; have n0_ := Aside0.mk (KeepBut.blk hk (g' := gb300) (o := .cells #[.int .i64 0, .int .u64 0, .int .u64 0, .int .u64 0, .int .u64 0, .slice none 0 0] 52 (0, 0)) qf3 NB300_0.out (by simp)); have n1_ := Aside0.mk (KeepBut.trans qf0 hk (.inl rfl)); have n2_ := Aside0.mk (hb); have n3_ := Aside0.mk (hi); clear BK300; clear HK; clear HB; clear HI0; have BK300 := n0_; have HK := n1_; have HB := n2_; have HI0 := n3_; clear n0_ n1_ n2_ n3_; (try clear hb); (try clear hb2); (try clear hk); (try clear hi); obtain ⟨HGz56, hgz56⟩ := HI0.out; have hcz56_0 := cellS76_0 HGz56; have hcz56_1 := cellS76_1 HGz56; have hcz56_2 := cellS76_2 HGz56; have hcz56_3 := cellS76_3 HGz56; have hcz56_4 := cellS76_4 HGz56; have hfz56_0 := blk_frozen HGz56 0; have hfz56_1 := blk_frozen HGz56 1; have hfz56_2 := blk_frozen HGz56 2; have hfz56_3 := blk_frozen HGz56 3; have hfz56_4 := blk_frozen HGz56 4; clear HGz56 hgz56; have hnb57 := NB300_0.out; have hnc57 := NB0_300.out; have hcz58_0 : w55.cell? ⟨gb300, 0, none⟩ = some (.int .i64 0) := (blk_cell BK300.out 0).trans rfl; have hcz58_1 : w55.cell? ⟨gb300, 1, none⟩ = some (.int .u64 0) := (blk_cell BK300.out 1).trans rfl; have hcz58_2 : w55.cell? ⟨gb300, 2, none⟩ = some (.int .u64 0) := (blk_cell BK300.out 2).trans rfl; have hcz58_3 : w55.cell? ⟨gb300, 3, none⟩ = some (.int .u64 0) := (blk_cell BK300.out 3).trans rfl; have hcz58_4 : w55.cell? ⟨gb300, 4, none⟩ = some (.int .u64 0) := (blk_cell BK300.out 4).trans rfl; have hcz58_5 : w55.cell? ⟨gb300, 5, none⟩ = some (.slice none 0 0) := (blk_cell BK300.out 5).trans rfl; have hfz58_0 := blk_frozen BK300.out 0; have hfz58_1 := blk_frozen BK300.out 1; have hfz58_2 := blk_frozen BK300.out 2; have hfz58_3 := blk_frozen BK300.out 3; have hfz58_4 := blk_frozen BK300.out 4; have hfz58_5 := blk_frozen BK300.out 5))
     refine bodyPost_ret (results_cell_row rfl _ _ gb300 52 #[.int .i64 7, .int .u64 0, .int .u64 0, .int .u64 0, .int .u64 0, .slice none 0 0] (0, 0) _ rfl (by (with_reducible repeat (first | refine blk_drewN ?_ _ | refine blk_drew ?_ | refine blk_alloc ?_ _)); refine blk_put (cs := #[.int .i64 7, .int .u64 0, .int .u64 0, .int .u64 0, .int .u64 0, .slice none 0 0]) ?_ 5 _ rfl; (with_reducible repeat (first | refine blk_drewN ?_ _ | refine blk_drew ?_ | refine blk_alloc ?_ _)); refine blk_put (cs := #[.int .i64 7, .int .u64 0, .int .u64 0, .int .u64 0, .int .u64 0, .slice none 0 0]) ?_ 4 _ rfl; (with_reducible repeat (first | refine blk_drewN ?_ _ | refine blk_drew ?_ | refine blk_alloc ?_ _)); refine blk_put (cs := #[.int .i64 7, .int .u64 0, .int .u64 0, .int .u64 0, .int .u64 0, .slice none 0 0]) ?_ 3 _ rfl; (with_reducible repeat (first | refine blk_drewN ?_ _ | refine blk_drew ?_ | refine blk_alloc ?_ _)); refine blk_put (cs := #[.int .i64 7, .int .u64 0, .int .u64 0, .int .u64 0, .int .u64 0, .slice none 0 0]) ?_ 2 _ rfl; (with_reducible repeat (first | refine blk_drewN ?_ _ | refine blk_drew ?_ | refine blk_alloc ?_ _)); refine blk_put (cs := #[.int .i64 7, .int .u64 0, .int .u64 0, .int .u64 0, .int .u64 0, .slice none 0 0]) ?_ 1 _ rfl; (with_reducible repeat (first | refine blk_drewN ?_ _ | refine blk_drew ?_ | refine blk_alloc ?_ _)); refine blk_put (cs := #[.int .i64 0, .int .u64 0, .int .u64 0, .int .u64 0, .int .u64 0, .slice none 0 0]) ?_ 0 _ rfl; (with_reducible repeat (first | refine blk_drewN ?_ _ | refine blk_drew ?_ | refine blk_alloc ?_ _)); refine blk_far ?_ NB300_0.out _; (with_reducible repeat (first | refine blk_drewN ?_ _ | refine blk_drew ?_ | refine blk_alloc ?_ _)); exact BK300.out) Try.underlying52 rfl (by kernel_rfl)) rfl ?_
     exact ⟨_, by first | rfl | (simp [errW_none, errW_some] <;> rfl) | (simp [errW_none, errW_some] <;> first | rfl | exact isEmpty_bne _) | (simp [*, errW_none, errW_some] <;> rfl), by first | exact Kd.R_nil _ _ _ _ _ | exact Kd.N_nil _ _ _ _ _ | exact Kd.V_nil _ _ _ _ _ | exact Kd.Q_nil _ _ _ _ _ | exact Kd.S_nil _ _ _ _ _, by repeat (first | (with_reducible first | exact HI0.out | apply IsS76.alloc | apply IsS76.drewN | apply IsS76.drew | apply IsS76.set_0 | apply IsS76.set_1 | apply IsS76.set_2 | apply IsS76.set_3 | apply IsS76.set_4 | apply IsS76.far (hne := NB0_300.out)) | exact HI0.out), by repeat (first | (with_reducible first | exact HB.out | apply below_alloc | apply pw_below_drewN | apply below_drew1 | refine below_set ?_ (IsS76.ge HI0.out) | refine below_set ?_ GE300.out) | exact HB.out), by repeat (first | (with_reducible first | exact HK.out | apply KeepBut.set_ | apply keep_drewN | apply keep_drew | apply keep_alloc | refine keep_far ?_ GW300.out _) | exact HK.out)⟩
    ·rw [if_neg c53] at H
     have c53b0 : (t301 == 94) = false := beq_eq_false_iff_ne.mpr c53
     have c53b1 : (t301 != 94) = true := bne_iff_ne.mpr c53
     by_cases c59 : t301 = 36
     ·rw [if_pos c59] at H
      have c59b0 : (t301 == 36) = true := beq_iff_eq.mpr c59
      have c59b1 : (t301 != 36) = false := bne_eq_false_iff_eq.mpr c59
      clear c59
      simp only [Option.some.injEq, Prod.mk.injEq] at H
      obtain ⟨rfl, rfl, rfl, rfl, rfl, rfl, rfl, rfl, rfl, rfl, rfl⟩ := H
      go_enter Try.func42, Try.ntmps42
      go_wp2_with (first | ((with_reducible refine gate_dst (N := 2) rfl ?_); refine box_event ?hg (N := 2) ?hd (cs := #[.int .i64 0, .int .u64 0, .int .u64 0, .int .u64 0, .int .u64 0, .slice none 0 0]) (t := 52) ?hr ?_; (case hd => rfl); (case hg => rfl); (case hr => first | (go_simp; done) | (go_simp; rfl)); intro gb300 hg w60 hbox hb; have n0_ := Aside0.mk (IsS76.below qf6 hb); have n1_ := Aside0.mk (KeepBut.trans qf1 (KeepBut.of_below hb g none) (.inl rfl)); have n2_ := Aside0.mk (below_step qf7 hb); have n3_ := Aside0.mk (hbox); have n4_ := Aside0.mk ((by rw [hg]; exact (keep_size (w := w) (g := g) (row := none) qf1) : w.heap.size ≤ gb300)); have n5_ := Aside0.mk ((Nat.le_trans HW0.out (by rw [hg]; exact (keep_size (w := w) (g := g) (row := none) qf1) : w.heap.size ≤ gb300) : w0.heap.size ≤ gb300)); have n6_ := Aside0.mk ((by rw [hg]; exact Nat.ne_of_lt (IsS76.lt (show IsS76 w0 _ g s0_0 s0_1 s0_2 s0_3 s0_4 from by repeat (first | (with_reducible first | exact HI0.out | apply IsS76.alloc | apply IsS76.drewN | apply IsS76.drew | apply IsS76.set_0 | apply IsS76.set_1 | apply IsS76.set_2 | apply IsS76.set_3 | apply IsS76.set_4) | exact HI0.out))) : g ≠ gb300)); have n7_ := Aside0.mk ((by rw [hg]; exact Nat.ne_of_gt (IsS76.lt (show IsS76 w0 _ g s0_0 s0_1 s0_2 s0_3 s0_4 from by repeat (first | (with_reducible first | exact HI0.out | apply IsS76.alloc | apply IsS76.drewN | apply IsS76.drew | apply IsS76.set_0 | apply IsS76.set_1 | apply IsS76.set_2 | apply IsS76.set_3 | apply IsS76.set_4) | exact HI0.out))) : gb300 ≠ g)); clear HI0; clear HK; clear HB; have HI0 := n0_; have HK := n1_; have HB := n2_; have BK300 := n3_; have GW300 := n4_; have GE300 := n5_; have NB0_300 := n6_; have NB300_0 := n7_; clear n0_ n1_ n2_ n3_ n4_ n5_ n6_ n7_; clear hb hbox hg) | ((with_reducible refine gate_callee (f := 36) rfl ?_); refine goesL_ (some 11) rfl rfl Try.func36 (by kernel_rfl) rfl #[.pointer (some ⟨g, 0, none⟩)] rfl qf2 ?_; (with_reducible refine (regex_reader_next.calls g s0_0 s0_1 s0_2 s0_3 s0_4 t301 t302 t303 t304 t305 t306 t307 w0 _ ?side1 ?side2 ?side3 A2.out).mono ?_); (case side1 => repeat (first | (with_reducible first | exact HI0.out | apply IsS76.alloc | apply IsS76.drewN | apply IsS76.drew | apply IsS76.set_0 | apply IsS76.set_1 | apply IsS76.set_2 | apply IsS76.set_3 | apply IsS76.set_4 | apply IsS76.far (hne := NB0_300.out)) | exact HI0.out)); (case side2 => repeat (first | (with_reducible first | exact HB.out | apply below_alloc | apply pw_below_drewN | apply below_drew1 | refine below_set ?_ (IsS76.ge HI0.out) | refine below_set ?_ GE300.out) | exact HB.out)); (case side3 => exact hT); rintro e w61 ⟨rfl, hi, hb, hk⟩; refine ⟨_, rfl, ?_⟩; have n0_ := Aside0.mk (KeepBut.blk hk (g' := gb300) (o := .cells #[.int .i64 0, .int .u64 0, .int .u64 0, .int .u64 0, .int .u64 0, .slice none 0 0] 52 (0, 0)) qf3 NB300_0.out (by simp)); have n1_ := Aside0.mk (KeepBut.trans qf0 hk (.inl rfl)); have n2_ := Aside0.mk (hb); have n3_ := Aside0.mk (hi); clear BK300; clear HK; clear HB; clear HI0; have BK300 := n0_; have HK := n1_; have HB := n2_; have HI0 := n3_; clear n0_ n1_ n2_ n3_; (try clear hb); (try clear hb2); (try clear hk); (try clear hi); obtain ⟨HGz62, hgz62⟩ := HI0.out; have hcz62_0 := cellS76_0 HGz62; have hcz62_1 := cellS76_1 HGz62; have hcz62_2 := cellS76_2 HGz62; have hcz62_3 := cellS76_3 HGz62; have hcz62_4 := cellS76_4 HGz62; have hfz62_0 := blk_frozen HGz62 0; have hfz62_1 := blk_frozen HGz62 1; have hfz62_2 := blk_frozen HGz62 2; have hfz62_3 := blk_frozen HGz62 3; have hfz62_4 := blk_frozen HGz62 4; clear HGz62 hgz62; have hnb63 := NB300_0.out; have hnc63 := NB0_300.out; have hcz64_0 : w61.cell? ⟨gb300, 0, none⟩ = some (.int .i64 0) := (blk_cell BK300.out 0).trans rfl; have hcz64_1 : w61.cell? ⟨gb300, 1, none⟩ = some (.int .u64 0) := (blk_cell BK300.out 1).trans rfl; have hcz64_2 : w61.cell? ⟨gb300, 2, none⟩ = some (.int .u64 0) := (blk_cell BK300.out 2).trans rfl; have hcz64_3 : w61.cell? ⟨gb300, 3, none⟩ = some (.int .u64 0) := (blk_cell BK300.out 3).trans rfl; have hcz64_4 : w61.cell? ⟨gb300, 4, none⟩ = some (.int .u64 0) := (blk_cell BK300.out 4).trans rfl; have hcz64_5 : w61.cell? ⟨gb300, 5, none⟩ = some (.slice none 0 0) := (blk_cell BK300.out 5).trans rfl; have hfz64_0 := blk_frozen BK300.out 0; have hfz64_1 := blk_frozen BK300.out 1; have hfz64_2 := blk_frozen BK300.out 2; have hfz64_3 := blk_frozen BK300.out 3; have hfz64_4 := blk_frozen BK300.out 4; have hfz64_5 := blk_frozen BK300.out 5))
      refine bodyPost_ret (results_cell_row rfl _ _ gb300 52 #[.int .i64 8, .int .u64 0, .int .u64 0, .int .u64 0, .int .u64 0, .slice none 0 0] (0, 0) _ rfl (by (with_reducible repeat (first | refine blk_drewN ?_ _ | refine blk_drew ?_ | refine blk_alloc ?_ _)); refine blk_put (cs := #[.int .i64 8, .int .u64 0, .int .u64 0, .int .u64 0, .int .u64 0, .slice none 0 0]) ?_ 5 _ rfl; (with_reducible repeat (first | refine blk_drewN ?_ _ | refine blk_drew ?_ | refine blk_alloc ?_ _)); refine blk_put (cs := #[.int .i64 8, .int .u64 0, .int .u64 0, .int .u64 0, .int .u64 0, .slice none 0 0]) ?_ 4 _ rfl; (with_reducible repeat (first | refine blk_drewN ?_ _ | refine blk_drew ?_ | refine blk_alloc ?_ _)); refine blk_put (cs := #[.int .i64 8, .int .u64 0, .int .u64 0, .int .u64 0, .int .u64 0, .slice none 0 0]) ?_ 3 _ rfl; (with_reducible repeat (first | refine blk_drewN ?_ _ | refine blk_drew ?_ | refine blk_alloc ?_ _)); refine blk_put (cs := #[.int .i64 8, .int .u64 0, .int .u64 0, .int .u64 0, .int .u64 0, .slice none 0 0]) ?_ 2 _ rfl; (with_reducible repeat (first | refine blk_drewN ?_ _ | refine blk_drew ?_ | refine blk_alloc ?_ _)); refine blk_put (cs := #[.int .i64 8, .int .u64 0, .int .u64 0, .int .u64 0, .int .u64 0, .slice none 0 0]) ?_ 1 _ rfl; (with_reducible repeat (first | refine blk_drewN ?_ _ | refine blk_drew ?_ | refine blk_alloc ?_ _)); refine blk_put (cs := #[.int .i64 0, .int .u64 0, .int .u64 0, .int .u64 0, .int .u64 0, .slice none 0 0]) ?_ 0 _ rfl; (with_reducible repeat (first | refine blk_drewN ?_ _ | refine blk_drew ?_ | refine blk_alloc ?_ _)); refine blk_far ?_ NB300_0.out _; (with_reducible repeat (first | refine blk_drewN ?_ _ | refine blk_drew ?_ | refine blk_alloc ?_ _)); exact BK300.out) Try.underlying52 rfl (by kernel_rfl)) rfl ?_
      exact ⟨_, by first | rfl | (simp [errW_none, errW_some] <;> rfl) | (simp [errW_none, errW_some] <;> first | rfl | exact isEmpty_bne _) | (simp [*, errW_none, errW_some] <;> rfl), by first | exact Kd.R_nil _ _ _ _ _ | exact Kd.N_nil _ _ _ _ _ | exact Kd.V_nil _ _ _ _ _ | exact Kd.Q_nil _ _ _ _ _ | exact Kd.S_nil _ _ _ _ _, by repeat (first | (with_reducible first | exact HI0.out | apply IsS76.alloc | apply IsS76.drewN | apply IsS76.drew | apply IsS76.set_0 | apply IsS76.set_1 | apply IsS76.set_2 | apply IsS76.set_3 | apply IsS76.set_4 | apply IsS76.far (hne := NB0_300.out)) | exact HI0.out), by repeat (first | (with_reducible first | exact HB.out | apply below_alloc | apply pw_below_drewN | apply below_drew1 | refine below_set ?_ (IsS76.ge HI0.out) | refine below_set ?_ GE300.out) | exact HB.out), by repeat (first | (with_reducible first | exact HK.out | apply KeepBut.set_ | apply keep_drewN | apply keep_drew | apply keep_alloc | refine keep_far ?_ GW300.out _) | exact HK.out)⟩
     ·rw [if_neg c59] at H
      have c59b0 : (t301 == 36) = false := beq_eq_false_iff_ne.mpr c59
      have c59b1 : (t301 != 36) = true := bne_iff_ne.mpr c59
      have HC65 := Aside0.mk H
      clear H
      go_enter Try.func42, Try.ntmps42
      go_upto_if 91 with (first | ((with_reducible refine gate_dst (N := 2) rfl ?_); refine box_event ?hg (N := 2) ?hd (cs := #[.int .i64 0, .int .u64 0, .int .u64 0, .int .u64 0, .int .u64 0, .slice none 0 0]) (t := 52) ?hr ?_; (case hd => rfl); (case hg => rfl); (case hr => first | (go_simp; done) | (go_simp; rfl)); intro gb300 hg w66 hbox hb; have n0_ := Aside0.mk (IsS76.below qf6 hb); have n1_ := Aside0.mk (KeepBut.trans qf1 (KeepBut.of_below hb g none) (.inl rfl)); have n2_ := Aside0.mk (below_step qf7 hb); have n3_ := Aside0.mk (hbox); have n4_ := Aside0.mk ((by rw [hg]; exact (keep_size (w := w) (g := g) (row := none) qf1) : w.heap.size ≤ gb300)); have n5_ := Aside0.mk ((Nat.le_trans HW0.out (by rw [hg]; exact (keep_size (w := w) (g := g) (row := none) qf1) : w.heap.size ≤ gb300) : w0.heap.size ≤ gb300)); have n6_ := Aside0.mk ((by rw [hg]; exact Nat.ne_of_lt (IsS76.lt (show IsS76 w0 _ g s0_0 s0_1 s0_2 s0_3 s0_4 from by repeat (first | (with_reducible first | exact HI0.out | apply IsS76.alloc | apply IsS76.drewN | apply IsS76.drew | apply IsS76.set_0 | apply IsS76.set_1 | apply IsS76.set_2 | apply IsS76.set_3 | apply IsS76.set_4) | exact HI0.out))) : g ≠ gb300)); have n7_ := Aside0.mk ((by rw [hg]; exact Nat.ne_of_gt (IsS76.lt (show IsS76 w0 _ g s0_0 s0_1 s0_2 s0_3 s0_4 from by repeat (first | (with_reducible first | exact HI0.out | apply IsS76.alloc | apply IsS76.drewN | apply IsS76.drew | apply IsS76.set_0 | apply IsS76.set_1 | apply IsS76.set_2 | apply IsS76.set_3 | apply IsS76.set_4) | exact HI0.out))) : gb300 ≠ g)); clear HI0; clear HK; clear HB; have HI0 := n0_; have HK := n1_; have HB := n2_; have BK300 := n3_; have GW300 := n4_; have GE300 := n5_; have NB0_300 := n6_; have NB300_0 := n7_; clear n0_ n1_ n2_ n3_ n4_ n5_ n6_ n7_; clear hb hbox hg) | ((with_reducible refine gate_callee (f := 36) rfl ?_); refine goesL_ (some 11) rfl rfl Try.func36 (by kernel_rfl) rfl #[.pointer (some ⟨g, 0, none⟩)] rfl qf2 ?_; (with_reducible refine (regex_reader_next.calls g s0_0 s0_1 s0_2 s0_3 s0_4 t301 t302 t303 t304 t305 t306 t307 w0 _ ?side1 ?side2 ?side3 A2.out).mono ?_); (case side1 => repeat (first | (with_reducible first | exact HI0.out | apply IsS76.alloc | apply IsS76.drewN | apply IsS76.drew | apply IsS76.set_0 | apply IsS76.set_1 | apply IsS76.set_2 | apply IsS76.set_3 | apply IsS76.set_4 | apply IsS76.far (hne := NB0_300.out)) | exact HI0.out)); (case side2 => repeat (first | (with_reducible first | exact HB.out | apply below_alloc | apply pw_below_drewN | apply below_drew1 | refine below_set ?_ (IsS76.ge HI0.out) | refine below_set ?_ GE300.out) | exact HB.out)); (case side3 => exact hT); rintro e w67 ⟨rfl, hi, hb, hk⟩; refine ⟨_, rfl, ?_⟩; have n0_ := Aside0.mk (KeepBut.blk hk (g' := gb300) (o := .cells #[.int .i64 0, .int .u64 0, .int .u64 0, .int .u64 0, .int .u64 0, .slice none 0 0] 52 (0, 0)) qf3 NB300_0.out (by simp)); have n1_ := Aside0.mk (KeepBut.trans qf0 hk (.inl rfl)); have n2_ := Aside0.mk (hb); have n3_ := Aside0.mk (hi); clear BK300; clear HK; clear HB; clear HI0; have BK300 := n0_; have HK := n1_; have HB := n2_; have HI0 := n3_; clear n0_ n1_ n2_ n3_; (try clear hb); (try clear hb2); (try clear hk); (try clear hi); obtain ⟨HGz68, hgz68⟩ := HI0.out; have hcz68_0 := cellS76_0 HGz68; have hcz68_1 := cellS76_1 HGz68; have hcz68_2 := cellS76_2 HGz68; have hcz68_3 := cellS76_3 HGz68; have hcz68_4 := cellS76_4 HGz68; have hfz68_0 := blk_frozen HGz68 0; have hfz68_1 := blk_frozen HGz68 1; have hfz68_2 := blk_frozen HGz68 2; have hfz68_3 := blk_frozen HGz68 3; have hfz68_4 := blk_frozen HGz68 4; clear HGz68 hgz68))
      (try simp only [Act.put, List.setIfInBounds_toArray, List.set_cons_zero, List.set_cons_succ])
      go_cut [91] (fun v91 wc => ∃ (kq : Nat) (x91_64 : Bool), v91 = .bool x91_64 ∧ Aside0 (regex_reader_atom.j2 kq t301 t301 x91_64 t303 (wrap64 (t304 + 1)) t305 t306 t307 = some (r1, r2, r3, r4, r5, r6, r7, r8, r9, r10, r11)) ∧ Aside0 (kq ≤ k) ∧ Aside0 (wc.heap[gb300]? = some (.cells #[.int .i64 0, .int .u64 0, .int .u64 0, .int .u64 0, .int .u64 0, (.slice none 0 0)] 52 (0, 0))) ∧ Aside0 (IsS76 w0 wc g t303 (wrap64 (t304 + 1)) t305 t306 t307) ∧ Aside0 (KeepBut w wc g none) ∧ Aside0 (Below w0.heap.size w0 wc))
      case first =>
       have H := HC65.out
       clear HC65
       by_cases c69 : t301 = 42
       ·rw [if_pos c69] at H
        have c69b0 : (t301 == 42) = true := beq_iff_eq.mpr c69
        have c69b1 : (t301 != 42) = false := bne_eq_false_iff_eq.mpr c69
        clear c69
        (first | rw [c69b0] | (simp only [i64_w, i32_w]; rw [c69b0]) | skip)
        have H' := Aside0.mk H
        clear H
        go_wp2
        go_meet
        case rel => exact ⟨_, ((t301 == 42)), qf9, H', ⟨by first | omega | exact Nat.le_refl _⟩, ⟨by (with_reducible repeat (first | refine blk_drewN ?_ _ | refine blk_drew ?_ | refine blk_alloc ?_ _)); refine blk_far ?_ NB300_0.out _; (with_reducible repeat (first | refine blk_drewN ?_ _ | refine blk_drew ?_ | refine blk_alloc ?_ _)); exact BK300.out⟩, ⟨by repeat (first | (with_reducible first | exact HI0.out | apply IsS76.alloc | apply IsS76.drewN | apply IsS76.drew | apply IsS76.set_0 | apply IsS76.set_1 | apply IsS76.set_2 | apply IsS76.set_3 | apply IsS76.set_4 | apply IsS76.far (hne := NB0_300.out)) | exact HI0.out)⟩, ⟨by repeat (first | (with_reducible first | exact HK.out | apply KeepBut.set_ | apply keep_drewN | apply keep_drew | apply keep_alloc | refine keep_far ?_ GW300.out _) | exact HK.out)⟩, ⟨by repeat (first | (with_reducible first | exact HB.out | apply below_alloc | apply pw_below_drewN | apply below_drew1 | refine below_set ?_ (IsS76.ge HI0.out) | refine below_set ?_ GE300.out) | exact HB.out)⟩⟩
       ·rw [if_neg c69] at H
        have c69b0 : (t301 == 42) = false := beq_eq_false_iff_ne.mpr c69
        have c69b1 : (t301 != 42) = true := bne_iff_ne.mpr c69
        (first | rw [c69b0] | (simp only [i64_w, i32_w]; rw [c69b0]) | skip)
        by_cases c70 : t301 = 43
        ·rw [if_pos c70] at H
         have c70b0 : (t301 == 43) = true := beq_iff_eq.mpr c70
         have c70b1 : (t301 != 43) = false := bne_eq_false_iff_eq.mpr c70
         clear c70
         have H' := Aside0.mk H
         clear H
         go_wp2
         go_meet
         case rel => exact ⟨_, ((t301 == 43)), qf9, H', ⟨by first | omega | exact Nat.le_refl _⟩, ⟨by (with_reducible repeat (first | refine blk_drewN ?_ _ | refine blk_drew ?_ | refine blk_alloc ?_ _)); refine blk_far ?_ NB300_0.out _; (with_reducible repeat (first | refine blk_drewN ?_ _ | refine blk_drew ?_ | refine blk_alloc ?_ _)); exact BK300.out⟩, ⟨by repeat (first | (with_reducible first | exact HI0.out | apply IsS76.alloc | apply IsS76.drewN | apply IsS76.drew | apply IsS76.set_0 | apply IsS76.set_1 | apply IsS76.set_2 | apply IsS76.set_3 | apply IsS76.set_4 | apply IsS76.far (hne := NB0_300.out)) | exact HI0.out)⟩, ⟨by repeat (first | (with_reducible first | exact HK.out | apply KeepBut.set_ | apply keep_drewN | apply keep_drew | apply keep_alloc | refine keep_far ?_ GW300.out _) | exact HK.out)⟩, ⟨by repeat (first | (with_reducible first | exact HB.out | apply below_alloc | apply pw_below_drewN | apply below_drew1 | refine below_set ?_ (IsS76.ge HI0.out) | refine below_set ?_ GE300.out) | exact HB.out)⟩⟩
        ·rw [if_neg c70] at H
         have c70b0 : (t301 == 43) = false := beq_eq_false_iff_ne.mpr c70
         have c70b1 : (t301 != 43) = true := bne_iff_ne.mpr c70
         have H' := Aside0.mk H
         clear H
         go_wp2
         go_meet
         case rel => exact ⟨_, ((t301 == 63)), qf9, H', ⟨by first | omega | exact Nat.le_refl _⟩, ⟨by (with_reducible repeat (first | refine blk_drewN ?_ _ | refine blk_drew ?_ | refine blk_alloc ?_ _)); refine blk_far ?_ NB300_0.out _; (with_reducible repeat (first | refine blk_drewN ?_ _ | refine blk_drew ?_ | refine blk_alloc ?_ _)); exact BK300.out⟩, ⟨by repeat (first | (with_reducible first | exact HI0.out | apply IsS76.alloc | apply IsS76.drewN | apply IsS76.drew | apply IsS76.set_0 | apply IsS76.set_1 | apply IsS76.set_2 | apply IsS76.set_3 | apply IsS76.set_4 | apply IsS76.far (hne := NB0_300.out)) | exact HI0.out)⟩, ⟨by repeat (first | (with_reducible first | exact HK.out | apply KeepBut.set_ | apply keep_drewN | apply keep_drew | apply keep_alloc | refine keep_far ?_ GW300.out _) | exact HK.out)⟩, ⟨by repeat (first | (with_reducible first | exact HB.out | apply below_alloc | apply pw_below_drewN | apply below_drew1 | refine below_set ?_ (IsS76.ge HI0.out) | refine below_set ?_ GE300.out) | exact HB.out)⟩⟩
      case rest =>
       clear HC65
       try clear c1
       try clear c2
       try clear p2
       try clear c3
       try clear c3b0
       try clear c3b1
       try clear c4
       try clear c5
       try clear c6
       try clear p6
       try clear c7
       try clear c8
       try clear c8b0
       try clear c16
       try clear c17
       try clear c21
       try clear c22
       try clear c26
       try clear c27
       try clear c29
       try clear c32
       try clear c33
       try clear c35
       try clear c36
       try clear c37
       try clear c37b0
       try clear c37b1
       try clear c41
       try clear c42
       try clear c43
       try clear c45
       try clear c45b0
       try clear c45b1
       try clear c48
       try clear c49
       try clear c51
       try clear c53
       try clear c53b0
       try clear c53b1
       try clear c57
       try clear c59
       try clear c59b0
       try clear c59b1
       try clear c63
       try clear p64
       try clear c69
       try clear c69b0
       try clear c69b1
       try clear c70
       try clear c70b0
       try clear c70b1
       try clear hcz18_0
       try clear hcz18_1
       try clear hcz18_2
       try clear hcz18_3
       try clear hcz18_4
       try clear hcz18_5
       try clear hcz25_0
       try clear hcz25_1
       try clear hcz25_2
       try clear hcz25_3
       try clear hcz25_4
       try clear hcz28_0
       try clear hcz28_1
       try clear hcz28_2
       try clear hcz28_3
       try clear hcz28_4
       try clear hcz28_5
       try clear hcz30_0
       try clear hcz30_1
       try clear hcz30_2
       try clear hcz30_3
       try clear hcz30_4
       try clear hcz30_5
       try clear hcz31_0
       try clear hcz31_1
       try clear hcz31_2
       try clear hcz31_3
       try clear hcz31_4
       try clear hcz34_0
       try clear hcz34_1
       try clear hcz34_2
       try clear hcz34_3
       try clear hcz34_4
       try clear hcz34_5
       try clear hcz36_0
       try clear hcz36_1
       try clear hcz36_2
       try clear hcz36_3
       try clear hcz36_4
       try clear hcz36_5
       try clear hcz41_0
       try clear hcz41_1
       try clear hcz41_2
       try clear hcz41_3
       try clear hcz41_4
       try clear hcz44_0
       try clear hcz44_1
       try clear hcz44_2
       try clear hcz44_3
       try clear hcz44_4
       try clear hcz44_5
       try clear hcz49_0
       try clear hcz49_1
       try clear hcz49_2
       try clear hcz49_3
       try clear hcz49_4
       try clear hcz52_0
       try clear hcz52_1
       try clear hcz52_2
       try clear hcz52_3
       try clear hcz52_4
       try clear hcz52_5
       try clear hcz56_0
       try clear hcz56_1
       try clear hcz56_2
       try clear hcz56_3
       try clear hcz56_4
       try clear hcz58_0
       try clear hcz58_1
       try clear hcz58_2
       try clear hcz58_3
       try clear hcz58_4
       try clear hcz58_5
       try clear hcz62_0
       try clear hcz62_1
       try clear hcz62_2
       try clear hcz62_3
       try clear hcz62_4
       try clear hcz64_0
       try clear hcz64_1
       try clear hcz64_2
       try clear hcz64_3
       try clear hcz64_4
       try clear hcz64_5
       try clear hcz68_0
       try clear hcz68_1
       try clear hcz68_2
       try clear hcz68_3
       try clear hcz68_4
       try clear hcz7_0
       try clear hcz7_1
       try clear hcz7_2
       try clear hcz7_3
       try clear hcz7_4
       try clear hfz18_0
       try clear hfz18_1
       try clear hfz18_2
       try clear hfz18_3
       try clear hfz18_4
       try clear hfz18_5
       try clear hfz25_0
       try clear hfz25_1
       try clear hfz25_2
       try clear hfz25_3
       try clear hfz25_4
       try clear hfz28_0
       try clear hfz28_1
       try clear hfz28_2
       try clear hfz28_3
       try clear hfz28_4
       try clear hfz28_5
       try clear hfz30_0
       try clear hfz30_1
       try clear hfz30_2
       try clear hfz30_3
       try clear hfz30_4
       try clear hfz30_5
       try clear hfz31_0
       try clear hfz31_1
       try clear hfz31_2
       try clear hfz31_3
       try clear hfz31_4
       try clear hfz34_0
       try clear hfz34_1
       try clear hfz34_2
       try clear hfz34_3
       try clear hfz34_4
       try clear hfz34_5
       try clear hfz36_0
       try clear hfz36_1
       try clear hfz36_2
       try clear hfz36_3
       try clear hfz36_4
       try clear hfz36_5
       try clear hfz41_0
       try clear hfz41_1
       try clear hfz41_2
       try clear hfz41_3
       try clear hfz41_4
       try clear hfz44_0
       try clear hfz44_1
       try clear hfz44_2
       try clear hfz44_3
       try clear hfz44_4
       try clear hfz44_5
       try clear hfz49_0
       try clear hfz49_1
       try clear hfz49_2
       try clear hfz49_3
       try clear hfz49_4
       try clear hfz52_0
       try clear hfz52_1
       try clear hfz52_2
       try clear hfz52_3
       try clear hfz52_4
       try clear hfz52_5
       try clear hfz56_0
       try clear hfz56_1
       try clear hfz56_2
       try clear hfz56_3
       try clear hfz56_4
       try clear hfz58_0
       try clear hfz58_1
       try clear hfz58_2
       try clear hfz58_3
       try clear hfz58_4
       try clear hfz58_5
       try clear hfz62_0
       try clear hfz62_1
       try clear hfz62_2
       try clear hfz62_3
       try clear hfz62_4
       try clear hfz64_0
       try clear hfz64_1
       try clear hfz64_2
       try clear hfz64_3
       try clear hfz64_4
       try clear hfz64_5
       try clear hfz68_0
       try clear hfz68_1
       try clear hfz68_2
       try clear hfz68_3
       try clear hfz68_4
       try clear hfz7_0
       try clear hfz7_1
       try clear hfz7_2
       try clear hfz7_3
       try clear hfz7_4
       try clear p2
       try clear p6
       obtain ⟨kq, x91_64, rfl, HA, HJ64, BK300, HI0, HK, HB⟩ := hcut
       cases kq with
       | zero => exact absurd HA.out (by simp [regex_reader_atom.j2])
       | succ kj64 =>
        have H := HA.out
        clear HA
        simp only [regex_reader_atom.j2] at H
        by_cases c71 : x91_64 = true
        ·subst c71
         have H1 : ((regex_reader_fail.f t303 (wrap64 (t304 + 1)) t305 t306 t307 (wrap64 ((wrap64 (t304 + 1)) - 1)) 9).bind fun bt352 => ((regex_Set_With.f 0 0 0 0 t301).bind fun bt357 => (some (1, bt357.1, bt357.2.1, bt357.2.2.1, bt357.2.2.2, ([] : List (S52)), bt352.1, bt352.2.1, bt352.2.2.1, bt352.2.2.2.1, bt352.2.2.2.2)))) = some (r1, r2, r3, r4, r5, r6, r7, r8, r9, r10, r11) := by rw [if_pos rfl] at H; exact H
         clear H
         have H := H1
         clear H1
         replace H := Option.bind_eq_some_iff.mp H
         obtain ⟨⟨t352, t353, t354, t355, t356⟩, A720, H⟩ := H
         replace H : ((regex_Set_With.f 0 0 0 0 t301).bind fun bt357 => (some (1, bt357.1, bt357.2.1, bt357.2.2.1, bt357.2.2.2, ([] : List (S52)), t352, t353, t354, t355, t356))) = some (r1, r2, r3, r4, r5, r6, r7, r8, r9, r10, r11) := H
         have A72 := Aside0.mk A720
         clear A720
         replace H := Option.bind_eq_some_iff.mp H
         obtain ⟨⟨t357, t358, t359, t360⟩, A730, H⟩ := H
         replace H : (some (1, t357, t358, t359, t360, ([] : List (S52)), t352, t353, t354, t355, t356)) = some (r1, r2, r3, r4, r5, r6, r7, r8, r9, r10, r11) := H
         have A73 := Aside0.mk A730
         clear A730
         simp only [Option.some.injEq, Prod.mk.injEq] at H
         obtain ⟨rfl, rfl, rfl, rfl, rfl, rfl, rfl, rfl, rfl, rfl, rfl⟩ := H
         obtain ⟨HGz74, hgz74⟩ := HI0.out
         have hcz74_0 := cellS76_0 HGz74
         have hcz74_1 := cellS76_1 HGz74
         have hcz74_2 := cellS76_2 HGz74
         have hcz74_3 := cellS76_3 HGz74
         have hcz74_4 := cellS76_4 HGz74
         have hfz74_0 := blk_frozen HGz74 0
         have hfz74_1 := blk_frozen HGz74 1
         have hfz74_2 := blk_frozen HGz74 2
         have hfz74_3 := blk_frozen HGz74 3
         have hfz74_4 := blk_frozen HGz74 4
         clear HGz74 hgz74
         go_wp2_with (first | ((with_reducible refine gate_callee (f := 41) rfl ?_); refine goesL_ (some 101) rfl rfl Try.func41 (by kernel_rfl) rfl #[.pointer (some ⟨g, 0, none⟩), .int .i64 (wrap64 ((wrap64 (t304 + 1)) - 1)), .int .i64 9] rfl qf2 ?_; (with_reducible refine (regex_reader_fail.calls g t303 (wrap64 (t304 + 1)) t305 t306 t307 (wrap64 ((wrap64 (t304 + 1)) - 1)) 9 t352 t353 t354 t355 t356 w0 _ ?side1 ?side2 ?side3 A72.out).mono ?_); (case side1 => repeat (first | (with_reducible first | exact HI0.out | apply IsS76.alloc | apply IsS76.drewN | apply IsS76.drew | apply IsS76.set_0 | apply IsS76.set_1 | apply IsS76.set_2 | apply IsS76.set_3 | apply IsS76.set_4 | apply IsS76.far (hne := NB0_300.out)) | exact HI0.out)); (case side2 => repeat (first | (with_reducible first | exact HB.out | apply below_alloc | apply pw_below_drewN | apply below_drew1 | refine below_set ?_ (IsS76.ge HI0.out) | refine below_set ?_ GE300.out) | exact HB.out)); (case side3 => exact hT); rintro e w75 ⟨rfl, hi, hb, hk⟩; refine ⟨_, rfl, ?_⟩; have n0_ := Aside0.mk (KeepBut.blk hk (g' := gb300) (o := .cells #[.int .i64 0, .int .u64 0, .int .u64 0, .int .u64 0, .int .u64 0, .slice none 0 0] 52 (0, 0)) qf3 NB300_0.out (by simp)); have n1_ := Aside0.mk (KeepBut.trans qf0 hk (.inl rfl)); have n2_ := Aside0.mk (hb); have n3_ := Aside0.mk (hi); clear BK300; clear HK; clear HB; clear HI0; have BK300 := n0_; have HK := n1_; have HB := n2_; have HI0 := n3_; clear n0_ n1_ n2_ n3_; (try clear hb); (try clear hb2); (try clear hk); (try clear hi)) | ((with_reducible refine gate_callee (f := 51) rfl ?_); refine goesL_ (some 108) rfl rfl Try.func51 (by kernel_rfl) rfl #[.agg #[.int .u64 0, .int .u64 0, .int .u64 0, .int .u64 0], .int .u8 t301] rfl qf2 ?_; (with_reducible refine (regex_Set_With.calls 0 0 0 0 t301 t357 t358 t359 t360 _ ?side1 A73.out).mono ?_); (case side1 => exact TB.below hT qf5); rintro e w76 ⟨rfl, hb⟩; refine ⟨_, rfl, ?_⟩; have n0_ := Aside0.mk (blk_below (g := gb300) (o := .cells #[.int .i64 0, .int .u64 0, .int .u64 0, .int .u64 0, .int .u64 0, .slice none 0 0] 52 (0, 0)) qf3 hb); have n1_ := Aside0.mk (IsS76.below qf8 hb); have n2_ := Aside0.mk (KeepBut.trans qf0 (KeepBut.of_below hb g none) (.inl rfl)); have n3_ := Aside0.mk (below_step qf5 hb); clear BK300; clear HI0; clear HK; clear HB; have BK300 := n0_; have HI0 := n1_; have HK := n2_; have HB := n3_; clear n0_ n1_ n2_ n3_; (try clear hb); (try clear hb2); (try clear hk); (try clear hi); have hnb77 := NB300_0.out; have hnc77 := NB0_300.out; have hcz78_0 : w76.cell? ⟨gb300, 0, none⟩ = some (.int .i64 0) := (blk_cell BK300.out 0).trans rfl; have hcz78_1 : w76.cell? ⟨gb300, 1, none⟩ = some (.int .u64 0) := (blk_cell BK300.out 1).trans rfl; have hcz78_2 : w76.cell? ⟨gb300, 2, none⟩ = some (.int .u64 0) := (blk_cell BK300.out 2).trans rfl; have hcz78_3 : w76.cell? ⟨gb300, 3, none⟩ = some (.int .u64 0) := (blk_cell BK300.out 3).trans rfl; have hcz78_4 : w76.cell? ⟨gb300, 4, none⟩ = some (.int .u64 0) := (blk_cell BK300.out 4).trans rfl; have hcz78_5 : w76.cell? ⟨gb300, 5, none⟩ = some (.slice none 0 0) := (blk_cell BK300.out 5).trans rfl; have hfz78_0 := blk_frozen BK300.out 0; have hfz78_1 := blk_frozen BK300.out 1; have hfz78_2 := blk_frozen BK300.out 2; have hfz78_3 := blk_frozen BK300.out 3; have hfz78_4 := blk_frozen BK300.out 4; have hfz78_5 := blk_frozen BK300.out 5))
         refine bodyPost_ret (results_cell_row rfl _ _ gb300 52 #[.int .i64 1, .int .u64 t357, .int .u64 t358, .int .u64 t359, .int .u64 t360, .slice none 0 0] (0, 0) _ rfl (by (with_reducible repeat (first | refine blk_drewN ?_ _ | refine blk_drew ?_ | refine blk_alloc ?_ _)); refine blk_put (cs := #[.int .i64 1, .int .u64 t357, .int .u64 t358, .int .u64 t359, .int .u64 t360, .slice none 0 0]) ?_ 5 _ rfl; (with_reducible repeat (first | refine blk_drewN ?_ _ | refine blk_drew ?_ | refine blk_alloc ?_ _)); refine blk_put (cs := #[.int .i64 1, .int .u64 t357, .int .u64 t358, .int .u64 t359, .int .u64 0, .slice none 0 0]) ?_ 4 _ rfl; (with_reducible repeat (first | refine blk_drewN ?_ _ | refine blk_drew ?_ | refine blk_alloc ?_ _)); refine blk_put (cs := #[.int .i64 1, .int .u64 t357, .int .u64 t358, .int .u64 0, .int .u64 0, .slice none 0 0]) ?_ 3 _ rfl; (with_reducible repeat (first | refine blk_drewN ?_ _ | refine blk_drew ?_ | refine blk_alloc ?_ _)); refine blk_put (cs := #[.int .i64 1, .int .u64 t357, .int .u64 0, .int .u64 0, .int .u64 0, .slice none 0 0]) ?_ 2 _ rfl; (with_reducible repeat (first | refine blk_drewN ?_ _ | refine blk_drew ?_ | refine blk_alloc ?_ _)); refine blk_put (cs := #[.int .i64 1, .int .u64 0, .int .u64 0, .int .u64 0, .int .u64 0, .slice none 0 0]) ?_ 1 _ rfl; (with_reducible repeat (first | refine blk_drewN ?_ _ | refine blk_drew ?_ | refine blk_alloc ?_ _)); refine blk_put (cs := #[.int .i64 0, .int .u64 0, .int .u64 0, .int .u64 0, .int .u64 0, .slice none 0 0]) ?_ 0 _ rfl; (with_reducible repeat (first | refine blk_drewN ?_ _ | refine blk_drew ?_ | refine blk_alloc ?_ _)); exact BK300.out) Try.underlying52 rfl (by kernel_rfl)) rfl ?_
         exact ⟨_, by first | rfl | (simp [errW_none, errW_some] <;> rfl) | (simp [errW_none, errW_some] <;> first | rfl | exact isEmpty_bne _) | (simp [*, errW_none, errW_some] <;> rfl), by first | exact Kd.R_nil _ _ _ _ _ | exact Kd.N_nil _ _ _ _ _ | exact Kd.V_nil _ _ _ _ _ | exact Kd.Q_nil _ _ _ _ _ | exact Kd.S_nil _ _ _ _ _, by repeat (first | (with_reducible first | exact HI0.out | apply IsS76.alloc | apply IsS76.drewN | apply IsS76.drew | apply IsS76.set_0 | apply IsS76.set_1 | apply IsS76.set_2 | apply IsS76.set_3 | apply IsS76.set_4 | apply IsS76.far (hne := NB0_300.out)) | exact HI0.out), by repeat (first | (with_reducible first | exact HB.out | apply below_alloc | apply pw_below_drewN | apply below_drew1 | refine below_set ?_ (IsS76.ge HI0.out) | refine below_set ?_ GE300.out) | exact HB.out), by repeat (first | (with_reducible first | exact HK.out | apply KeepBut.set_ | apply keep_drewN | apply keep_drew | apply keep_alloc | refine keep_far ?_ GW300.out _) | exact HK.out)⟩
        ·replace c71 := Bool.eq_false_iff.mpr c71
         subst c71
         have H1 : (if t301 = 92 then ((regex_reader_escape.f kj64 t303 (wrap64 (t304 + 1)) t305 t306 t307).bind fun bt361 => ((regex_Set_With.f 0 0 0 0 bt361.1).bind fun bt367 => (some (1, bt367.1, bt367.2.1, bt367.2.2.1, bt367.2.2.2, ([] : List (S52)), bt361.2.1, bt361.2.2.1, bt361.2.2.2.1, bt361.2.2.2.2.1, bt361.2.2.2.2.2)))) else ((regex_Set_With.f 0 0 0 0 t301).bind fun bt371 => (some (1, bt371.1, bt371.2.1, bt371.2.2.1, bt371.2.2.2, ([] : List (S52)), t303, (wrap64 (t304 + 1)), t305, t306, t307)))) = some (r1, r2, r3, r4, r5, r6, r7, r8, r9, r10, r11) := by rw [if_neg (show ¬ (false = true) by decide)] at H; exact H
         clear H
         have H := H1
         clear H1
         by_cases c79 : t301 = 92
         ·rw [if_pos c79] at H
          have c79b0 : (t301 == 92) = true := beq_iff_eq.mpr c79
          have c79b1 : (t301 != 92) = false := bne_eq_false_iff_eq.mpr c79
          clear c79
          replace H := Option.bind_eq_some_iff.mp H
          obtain ⟨⟨t361, t362, t363, t364, t365, t366⟩, A800, H⟩ := H
          replace H : ((regex_Set_With.f 0 0 0 0 t361).bind fun bt367 => (some (1, bt367.1, bt367.2.1, bt367.2.2.1, bt367.2.2.2, ([] : List (S52)), t362, t363, t364, t365, t366))) = some (r1, r2, r3, r4, r5, r6, r7, r8, r9, r10, r11) := H
          have A80 := Aside0.mk A800
          clear A800
          replace H := Option.bind_eq_some_iff.mp H
          obtain ⟨⟨t367, t368, t369, t370⟩, A810, H⟩ := H
          replace H : (some (1, t367, t368, t369, t370, ([] : List (S52)), t362, t363, t364, t365, t366)) = some (r1, r2, r3, r4, r5, r6, r7, r8, r9, r10, r11) := H
          have A81 := Aside0.mk A810
          clear A810
          simp only [Option.some.injEq, Prod.mk.injEq] at H
          obtain ⟨rfl, rfl, rfl, rfl, rfl, rfl, rfl, rfl, rfl, rfl, rfl⟩ := H
          go_wp2_with (first | ((with_reducible refine gate_callee (f := 50) rfl ?_); refine goesL_ (some 105) rfl rfl Try.func50 (by kernel_rfl) rfl #[.pointer (some ⟨g, 0, none⟩)] rfl qf2 ?_; (with_reducible refine (regex_reader_escape.calls kj64 g t303 (wrap64 (t304 + 1)) t305 t306 t307 t361 t362 t363 t364 t365 t366 w0 _ ?side1 ?side2 ?side3 A80.out).mono ?_); (case side1 => repeat (first | (with_reducible first | exact HI0.out | apply IsS76.alloc | apply IsS76.drewN | apply IsS76.drew | apply IsS76.set_0 | apply IsS76.set_1 | apply IsS76.set_2 | apply IsS76.set_3 | apply IsS76.set_4 | apply IsS76.far (hne := NB0_300.out)) | exact HI0.out)); (case side2 => repeat (first | (with_reducible first | exact HB.out | apply below_alloc | apply pw_below_drewN | apply below_drew1 | refine below_set ?_ (IsS76.ge HI0.out) | refine below_set ?_ GE300.out) | exact HB.out)); (case side3 => exact hT); rintro e w82 ⟨rfl, hi, hb, hk⟩; refine ⟨_, rfl, ?_⟩; have n0_ := Aside0.mk (KeepBut.blk hk (g' := gb300) (o := .cells #[.int .i64 0, .int .u64 0, .int .u64 0, .int .u64 0, .int .u64 0, .slice none 0 0] 52 (0, 0)) qf3 NB300_0.out (by simp)); have n1_ := Aside0.mk (KeepBut.trans qf0 hk (.inl rfl)); have n2_ := Aside0.mk (hb); have n3_ := Aside0.mk (hi); clear BK300; clear HK; clear HB; clear HI0; have BK300 := n0_; have HK := n1_; have HB := n2_; have HI0 := n3_; clear n0_ n1_ n2_ n3_; (try clear hb); (try clear hb2); (try clear hk); (try clear hi)) | ((with_reducible refine gate_callee (f := 51) rfl ?_); refine goesL_ (some 108) rfl rfl Try.func51 (by kernel_rfl) rfl #[.agg #[.int .u64 0, .int .u64 0, .int .u64 0, .int .u64 0], .int .u8 t361] rfl qf2 ?_; (with_reducible refine (regex_Set_With.calls 0 0 0 0 t361 t367 t368 t369 t370 _ ?side1 A81.out).mono ?_); (case side1 => exact TB.below hT qf5); rintro e w83 ⟨rfl, hb⟩; refine ⟨_, rfl, ?_⟩; have n0_ := Aside0.mk (blk_below (g := gb300) (o := .cells #[.int .i64 0, .int .u64 0, .int .u64 0, .int .u64 0, .int .u64 0, .slice none 0 0] 52 (0, 0)) qf3 hb); have n1_ := Aside0.mk (IsS76.below qf8 hb); have n2_ := Aside0.mk (KeepBut.trans qf0 (KeepBut.of_below hb g none) (.inl rfl)); have n3_ := Aside0.mk (below_step qf5 hb); clear BK300; clear HI0; clear HK; clear HB; have BK300 := n0_; have HI0 := n1_; have HK := n2_; have HB := n3_; clear n0_ n1_ n2_ n3_; (try clear hb); (try clear hb2); (try clear hk); (try clear hi); have hnb84 := NB300_0.out; have hnc84 := NB0_300.out; have hcz85_0 : w83.cell? ⟨gb300, 0, none⟩ = some (.int .i64 0) := (blk_cell BK300.out 0).trans rfl; have hcz85_1 : w83.cell? ⟨gb300, 1, none⟩ = some (.int .u64 0) := (blk_cell BK300.out 1).trans rfl; have hcz85_2 : w83.cell? ⟨gb300, 2, none⟩ = some (.int .u64 0) := (blk_cell BK300.out 2).trans rfl; have hcz85_3 : w83.cell? ⟨gb300, 3, none⟩ = some (.int .u64 0) := (blk_cell BK300.out 3).trans rfl; have hcz85_4 : w83.cell? ⟨gb300, 4, none⟩ = some (.int .u64 0) := (blk_cell BK300.out 4).trans rfl; have hcz85_5 : w83.cell? ⟨gb300, 5, none⟩ = some (.slice none 0 0) := (blk_cell BK300.out 5).trans rfl; have hfz85_0 := blk_frozen BK300.out 0; have hfz85_1 := blk_frozen BK300.out 1; have hfz85_2 := blk_frozen BK300.out 2; have hfz85_3 := blk_frozen BK300.out 3; have hfz85_4 := blk_frozen BK300.out 4; have hfz85_5 := blk_frozen BK300.out 5))
          refine bodyPost_ret (results_cell_row rfl _ _ gb300 52 #[.int .i64 1, .int .u64 t367, .int .u64 t368, .int .u64 t369, .int .u64 t370, .slice none 0 0] (0, 0) _ rfl (by (with_reducible repeat (first | refine blk_drewN ?_ _ | refine blk_drew ?_ | refine blk_alloc ?_ _)); refine blk_put (cs := #[.int .i64 1, .int .u64 t367, .int .u64 t368, .int .u64 t369, .int .u64 t370, .slice none 0 0]) ?_ 5 _ rfl; (with_reducible repeat (first | refine blk_drewN ?_ _ | refine blk_drew ?_ | refine blk_alloc ?_ _)); refine blk_put (cs := #[.int .i64 1, .int .u64 t367, .int .u64 t368, .int .u64 t369, .int .u64 0, .slice none 0 0]) ?_ 4 _ rfl; (with_reducible repeat (first | refine blk_drewN ?_ _ | refine blk_drew ?_ | refine blk_alloc ?_ _)); refine blk_put (cs := #[.int .i64 1, .int .u64 t367, .int .u64 t368, .int .u64 0, .int .u64 0, .slice none 0 0]) ?_ 3 _ rfl; (with_reducible repeat (first | refine blk_drewN ?_ _ | refine blk_drew ?_ | refine blk_alloc ?_ _)); refine blk_put (cs := #[.int .i64 1, .int .u64 t367, .int .u64 0, .int .u64 0, .int .u64 0, .slice none 0 0]) ?_ 2 _ rfl; (with_reducible repeat (first | refine blk_drewN ?_ _ | refine blk_drew ?_ | refine blk_alloc ?_ _)); refine blk_put (cs := #[.int .i64 1, .int .u64 0, .int .u64 0, .int .u64 0, .int .u64 0, .slice none 0 0]) ?_ 1 _ rfl; (with_reducible repeat (first | refine blk_drewN ?_ _ | refine blk_drew ?_ | refine blk_alloc ?_ _)); refine blk_put (cs := #[.int .i64 0, .int .u64 0, .int .u64 0, .int .u64 0, .int .u64 0, .slice none 0 0]) ?_ 0 _ rfl; (with_reducible repeat (first | refine blk_drewN ?_ _ | refine blk_drew ?_ | refine blk_alloc ?_ _)); exact BK300.out) Try.underlying52 rfl (by kernel_rfl)) rfl ?_
          exact ⟨_, by first | rfl | (simp [errW_none, errW_some] <;> rfl) | (simp [errW_none, errW_some] <;> first | rfl | exact isEmpty_bne _) | (simp [*, errW_none, errW_some] <;> rfl), by first | exact Kd.R_nil _ _ _ _ _ | exact Kd.N_nil _ _ _ _ _ | exact Kd.V_nil _ _ _ _ _ | exact Kd.Q_nil _ _ _ _ _ | exact Kd.S_nil _ _ _ _ _, by repeat (first | (with_reducible first | exact HI0.out | apply IsS76.alloc | apply IsS76.drewN | apply IsS76.drew | apply IsS76.set_0 | apply IsS76.set_1 | apply IsS76.set_2 | apply IsS76.set_3 | apply IsS76.set_4 | apply IsS76.far (hne := NB0_300.out)) | exact HI0.out), by repeat (first | (with_reducible first | exact HB.out | apply below_alloc | apply pw_below_drewN | apply below_drew1 | refine below_set ?_ (IsS76.ge HI0.out) | refine below_set ?_ GE300.out) | exact HB.out), by repeat (first | (with_reducible first | exact HK.out | apply KeepBut.set_ | apply keep_drewN | apply keep_drew | apply keep_alloc | refine keep_far ?_ GW300.out _) | exact HK.out)⟩
         ·rw [if_neg c79] at H
          have c79b0 : (t301 == 92) = false := beq_eq_false_iff_ne.mpr c79
          have c79b1 : (t301 != 92) = true := bne_iff_ne.mpr c79
          replace H := Option.bind_eq_some_iff.mp H
          obtain ⟨⟨t371, t372, t373, t374⟩, A860, H⟩ := H
          replace H : (some (1, t371, t372, t373, t374, ([] : List (S52)), t303, (wrap64 (t304 + 1)), t305, t306, t307)) = some (r1, r2, r3, r4, r5, r6, r7, r8, r9, r10, r11) := H
          have A86 := Aside0.mk A860
          clear A860
          simp only [Option.some.injEq, Prod.mk.injEq] at H
          obtain ⟨rfl, rfl, rfl, rfl, rfl, rfl, rfl, rfl, rfl, rfl, rfl⟩ := H
          go_wp2_with (first | ((with_reducible refine gate_callee (f := 51) rfl ?_); refine goesL_ (some 108) rfl rfl Try.func51 (by kernel_rfl) rfl #[.agg #[.int .u64 0, .int .u64 0, .int .u64 0, .int .u64 0], .int .u8 t301] rfl qf2 ?_; (with_reducible refine (regex_Set_With.calls 0 0 0 0 t301 t371 t372 t373 t374 _ ?side1 A86.out).mono ?_); (case side1 => exact TB.below hT qf5); rintro e w87 ⟨rfl, hb⟩; refine ⟨_, rfl, ?_⟩; have n0_ := Aside0.mk (blk_below (g := gb300) (o := .cells #[.int .i64 0, .int .u64 0, .int .u64 0, .int .u64 0, .int .u64 0, .slice none 0 0] 52 (0, 0)) qf3 hb); have n1_ := Aside0.mk (IsS76.below qf8 hb); have n2_ := Aside0.mk (KeepBut.trans qf0 (KeepBut.of_below hb g none) (.inl rfl)); have n3_ := Aside0.mk (below_step qf5 hb); clear BK300; clear HI0; clear HK; clear HB; have BK300 := n0_; have HI0 := n1_; have HK := n2_; have HB := n3_; clear n0_ n1_ n2_ n3_; (try clear hb); (try clear hb2); (try clear hk); (try clear hi); have hnb88 := NB300_0.out; have hnc88 := NB0_300.out; have hcz89_0 : w87.cell? ⟨gb300, 0, none⟩ = some (.int .i64 0) := (blk_cell BK300.out 0).trans rfl; have hcz89_1 : w87.cell? ⟨gb300, 1, none⟩ = some (.int .u64 0) := (blk_cell BK300.out 1).trans rfl; have hcz89_2 : w87.cell? ⟨gb300, 2, none⟩ = some (.int .u64 0) := (blk_cell BK300.out 2).trans rfl; have hcz89_3 : w87.cell? ⟨gb300, 3, none⟩ = some (.int .u64 0) := (blk_cell BK300.out 3).trans rfl; have hcz89_4 : w87.cell? ⟨gb300, 4, none⟩ = some (.int .u64 0) := (blk_cell BK300.out 4).trans rfl; have hcz89_5 : w87.cell? ⟨gb300, 5, none⟩ = some (.slice none 0 0) := (blk_cell BK300.out 5).trans rfl; have hfz89_0 := blk_frozen BK300.out 0; have hfz89_1 := blk_frozen BK300.out 1; have hfz89_2 := blk_frozen BK300.out 2; have hfz89_3 := blk_frozen BK300.out 3; have hfz89_4 := blk_frozen BK300.out 4; have hfz89_5 := blk_frozen BK300.out 5))
          refine bodyPost_ret (results_cell_row rfl _ _ gb300 52 #[.int .i64 1, .int .u64 t371, .int .u64 t372, .int .u64 t373, .int .u64 t374, .slice none 0 0] (0, 0) _ rfl (by (with_reducible repeat (first | refine blk_drewN ?_ _ | refine blk_drew ?_ | refine blk_alloc ?_ _)); refine blk_put (cs := #[.int .i64 1, .int .u64 t371, .int .u64 t372, .int .u64 t373, .int .u64 t374, .slice none 0 0]) ?_ 5 _ rfl; (with_reducible repeat (first | refine blk_drewN ?_ _ | refine blk_drew ?_ | refine blk_alloc ?_ _)); refine blk_put (cs := #[.int .i64 1, .int .u64 t371, .int .u64 t372, .int .u64 t373, .int .u64 0, .slice none 0 0]) ?_ 4 _ rfl; (with_reducible repeat (first | refine blk_drewN ?_ _ | refine blk_drew ?_ | refine blk_alloc ?_ _)); refine blk_put (cs := #[.int .i64 1, .int .u64 t371, .int .u64 t372, .int .u64 0, .int .u64 0, .slice none 0 0]) ?_ 3 _ rfl; (with_reducible repeat (first | refine blk_drewN ?_ _ | refine blk_drew ?_ | refine blk_alloc ?_ _)); refine blk_put (cs := #[.int .i64 1, .int .u64 t371, .int .u64 0, .int .u64 0, .int .u64 0, .slice none 0 0]) ?_ 2 _ rfl; (with_reducible repeat (first | refine blk_drewN ?_ _ | refine blk_drew ?_ | refine blk_alloc ?_ _)); refine blk_put (cs := #[.int .i64 1, .int .u64 0, .int .u64 0, .int .u64 0, .int .u64 0, .slice none 0 0]) ?_ 1 _ rfl; (with_reducible repeat (first | refine blk_drewN ?_ _ | refine blk_drew ?_ | refine blk_alloc ?_ _)); refine blk_put (cs := #[.int .i64 0, .int .u64 0, .int .u64 0, .int .u64 0, .int .u64 0, .slice none 0 0]) ?_ 0 _ rfl; (with_reducible repeat (first | refine blk_drewN ?_ _ | refine blk_drew ?_ | refine blk_alloc ?_ _)); exact BK300.out) Try.underlying52 rfl (by kernel_rfl)) rfl ?_
          exact ⟨_, by first | rfl | (simp [errW_none, errW_some] <;> rfl) | (simp [errW_none, errW_some] <;> first | rfl | exact isEmpty_bne _) | (simp [*, errW_none, errW_some] <;> rfl), by first | exact Kd.R_nil _ _ _ _ _ | exact Kd.N_nil _ _ _ _ _ | exact Kd.V_nil _ _ _ _ _ | exact Kd.Q_nil _ _ _ _ _ | exact Kd.S_nil _ _ _ _ _, by repeat (first | (with_reducible first | exact HI0.out | apply IsS76.alloc | apply IsS76.drewN | apply IsS76.drew | apply IsS76.set_0 | apply IsS76.set_1 | apply IsS76.set_2 | apply IsS76.set_3 | apply IsS76.set_4 | apply IsS76.far (hne := NB0_300.out)) | exact HI0.out), by repeat (first | (with_reducible first | exact HB.out | apply below_alloc | apply pw_below_drewN | apply below_drew1 | refine below_set ?_ (IsS76.ge HI0.out) | refine below_set ?_ GE300.out) | exact HB.out), by repeat (first | (with_reducible first | exact HK.out | apply KeepBut.set_ | apply keep_drewN | apply keep_drew | apply keep_alloc | refine keep_far ?_ GW300.out _) | exact HK.out)⟩

end Go.Proofs.Ythlffghlkggimaa.Pr
