/- The machine's side, written by a patched print (wip/tools): each theorem says that a call of the Go function comes to what the Lean function beside it computes, where the tables are laid (TB). -/
import Derived.WalkMore
import Derived.Test.YtmobbclpfbkkkaaDoorPr0
import Derived.Test.YtmobbclpfbkkkaaDoorPr13
namespace Go.Proofs.YtmobbclpfbkkkaaDoor.Pr
open Go.RowKit Go.Proofs.YtmobbclpfbkkkaaDoorW.PrintWords Go.Proofs.YtmobbclpfbkkkaaDoorW.PrintLast Go.Proofs.YtmobbclpfbkkkaaDoorW.PrintMore
attribute [local go_sem] fld32_0 fld32_1 fld32_2 fld45_0 fld45_1 fld54_0 fld54_1 fld54_2 fld54_3 fld54_4 fld54_5 fld54_6 binOp_string_gtr2 binOp_string_leq2 binOp_string_geq2 max2_int min2_int max_two min_two max_three min_three max_four min_four   -- for this text's walks alone
set_option linter.unusedVariables false
set_option linter.unusedSimpArgs false

/-! ### format_reader_spec: function 19 -/
mutual
def format_reader_spec.l0 : Nat → ByteArray → Int → Bool → Bool → Bool → Bool → Int → Int → Int → Option (Bool × Bool × Bool × Bool × Int × Int × Int × Int × ByteArray × Int)
 | 0, _, _, _, _, _, _, _, _, _ => none
 | k + 1, x1000, x1001, x162000, x162001, x162002, x162003, x162004, x162005, x162006 => (format_reader_next.f x1000 x1001).bind fun bt162 => (if bt162.1 = 45 then (format_reader_spec.l0 k bt162.2.1 (wrap64 (bt162.2.2 + 1)) true x162001 x162002 x162003 x162004 x162005 x162006) else (if bt162.1 = 48 then (format_reader_spec.l0 k bt162.2.1 (wrap64 (bt162.2.2 + 1)) x162000 true x162002 x162003 x162004 x162005 x162006) else (if bt162.1 = 43 then (format_reader_spec.l0 k bt162.2.1 (wrap64 (bt162.2.2 + 1)) x162000 x162001 true x162003 x162004 x162005 x162006) else (if bt162.1 = 32 then (format_reader_spec.l0 k bt162.2.1 (wrap64 (bt162.2.2 + 1)) x162000 x162001 x162002 true x162004 x162005 x162006) else ((format_reader_number.f k bt162.2.1 bt162.2.2).bind fun bt165 => ((format_reader_next.f bt165.2.1 bt165.2.2).bind fun bt168 => (if bt168.1 = 46 then ((format_reader_number.f k bt168.2.1 (wrap64 (bt168.2.2 + 1))).bind fun bt171 => (format_reader_spec.j1 k bt171.2.1 bt171.2.2 x162000 x162001 x162002 x162003 bt165.1 bt171.1 x162006)) else (format_reader_spec.j1 k bt168.2.1 bt168.2.2 x162000 x162001 x162002 x162003 bt165.1 x162005 x162006))))))))
def format_reader_spec.j1 : Nat → ByteArray → Int → Bool → Bool → Bool → Bool → Int → Int → Int → Option (Bool × Bool × Bool × Bool × Int × Int × Int × Int × ByteArray × Int)
 | 0, _, _, _, _, _, _, _, _, _ => none
 | k + 1, x1000, x1001, x162000, x162001, x162002, x162003, x162004, x162005, x162006 => if x162004 > 1000 then (format_reader_spec.j2 k true x1000 x1001 x162000 x162001 x162002 x162003 x162004 x162005 x162006) else (format_reader_spec.j2 k (decide (x162005 > 1000)) x1000 x1001 x162000 x162001 x162002 x162003 x162004 x162005 x162006)
def format_reader_spec.j2 : Nat → Bool → ByteArray → Int → Bool → Bool → Bool → Bool → Int → Int → Int → Option (Bool × Bool × Bool × Bool × Int × Int × Int × Int × ByteArray × Int)
 | 0, _, _, _, _, _, _, _, _, _, _ => none
 | k + 1, x50, x1000, x1001, x162000, x162001, x162002, x162003, x162004, x162005, x162006 => if x50 = true then (some (x162000, x162001, x162002, x162003, x162004, x162005, x162006, 12, x1000, x1001)) else ((format_reader_next.f x1000 x1001).bind fun bt174 => (if bt174.1 = 0 then (some (x162000, x162001, x162002, x162003, x162004, x162005, bt174.1, 16, bt174.2.1, bt174.2.2)) else ((strings_Contains.f (⟨#[100, 105, 120, 102, 115, 99, 37]⟩ : ByteArray) (strOfNums (([bt174.1] : List Int)))).bind fun t180 => (if t180 = true then (some (x162000, x162001, x162002, x162003, x162004, x162005, bt174.1, 0, bt174.2.1, wrap64 (bt174.2.2 + 1))) else (some (x162000, x162001, x162002, x162003, x162004, x162005, bt174.1, 16, bt174.2.1, bt174.2.2))))))
end
def format_reader_spec.f (k : Nat) (s0_0 : ByteArray) (s0_1 : Int) : Option (Bool × Bool × Bool × Bool × Int × Int × Int × Int × ByteArray × Int) := format_reader_spec.l0 k s0_0 s0_1 false false false false 0 (-1) 0
theorem format_reader_spec.mono_l : ∀ k, (∀ y0 y1 y2 y3 y4 y5 y6 y7 y8, LeO (format_reader_spec.l0 k y0 y1 y2 y3 y4 y5 y6 y7 y8) (format_reader_spec.l0 (k + 1) y0 y1 y2 y3 y4 y5 y6 y7 y8)) ∧ (∀ y0 y1 y2 y3 y4 y5 y6 y7 y8, LeO (format_reader_spec.j1 k y0 y1 y2 y3 y4 y5 y6 y7 y8) (format_reader_spec.j1 (k + 1) y0 y1 y2 y3 y4 y5 y6 y7 y8)) ∧ (∀ y0 y1 y2 y3 y4 y5 y6 y7 y8 y9, LeO (format_reader_spec.j2 k y0 y1 y2 y3 y4 y5 y6 y7 y8 y9) (format_reader_spec.j2 (k + 1) y0 y1 y2 y3 y4 y5 y6 y7 y8 y9))
 | 0 => ⟨fun _ _ _ _ _ _ _ _ _ r h => by simp [format_reader_spec.l0] at h, fun _ _ _ _ _ _ _ _ _ r h => by simp [format_reader_spec.j1] at h, fun _ _ _ _ _ _ _ _ _ _ r h => by simp [format_reader_spec.j2] at h⟩
 | k + 1 => by
  obtain ⟨ih0, ih1, ih2⟩ := format_reader_spec.mono_l k
  refine ⟨?_, ?_, ?_⟩
  ·intro y0 y1 y2 y3 y4 y5 y6 y7 y8
   unfold format_reader_spec.l0
   repeat' first
   | (with_reducible exact ih0 _ _ _ _ _ _ _ _ _)
   | (with_reducible exact ih1 _ _ _ _ _ _ _ _ _)
   | (with_reducible exact ih2 _ _ _ _ _ _ _ _ _ _)
   | (with_reducible exact format_reader_number.mono _ _ _)
   | (with_reducible exact LeO.refl _)
   | (with_reducible exact LeO.none _)
   | (with_reducible refine LeO.ite ?_ ?_)
   | (with_reducible refine LeO.bind ?_ (fun _ => ?_))
   | exact ih0 _ _ _ _ _ _ _ _ _
   | exact ih1 _ _ _ _ _ _ _ _ _
   | exact ih2 _ _ _ _ _ _ _ _ _ _
   | exact format_reader_number.mono _ _ _
   | exact LeO.none _
   | refine LeO.ite ?_ ?_
   | refine LeO.bind ?_ (fun _ => ?_)
  ·intro y0 y1 y2 y3 y4 y5 y6 y7 y8
   unfold format_reader_spec.j1
   repeat' first
   | (with_reducible exact ih0 _ _ _ _ _ _ _ _ _)
   | (with_reducible exact ih1 _ _ _ _ _ _ _ _ _)
   | (with_reducible exact ih2 _ _ _ _ _ _ _ _ _ _)
   | (with_reducible exact format_reader_number.mono _ _ _)
   | (with_reducible exact LeO.refl _)
   | (with_reducible exact LeO.none _)
   | (with_reducible refine LeO.ite ?_ ?_)
   | (with_reducible refine LeO.bind ?_ (fun _ => ?_))
   | exact ih0 _ _ _ _ _ _ _ _ _
   | exact ih1 _ _ _ _ _ _ _ _ _
   | exact ih2 _ _ _ _ _ _ _ _ _ _
   | exact format_reader_number.mono _ _ _
   | exact LeO.none _
   | refine LeO.ite ?_ ?_
   | refine LeO.bind ?_ (fun _ => ?_)
  ·intro y0 y1 y2 y3 y4 y5 y6 y7 y8 y9
   unfold format_reader_spec.j2
   repeat' first
   | (with_reducible exact ih0 _ _ _ _ _ _ _ _ _)
   | (with_reducible exact ih1 _ _ _ _ _ _ _ _ _)
   | (with_reducible exact ih2 _ _ _ _ _ _ _ _ _ _)
   | (with_reducible exact format_reader_number.mono _ _ _)
   | (with_reducible exact LeO.refl _)
   | (with_reducible exact LeO.none _)
   | (with_reducible refine LeO.ite ?_ ?_)
   | (with_reducible refine LeO.bind ?_ (fun _ => ?_))
   | exact ih0 _ _ _ _ _ _ _ _ _
   | exact ih1 _ _ _ _ _ _ _ _ _
   | exact ih2 _ _ _ _ _ _ _ _ _ _
   | exact format_reader_number.mono _ _ _
   | exact LeO.none _
   | refine LeO.ite ?_ ?_
   | refine LeO.bind ?_ (fun _ => ?_)
theorem format_reader_spec.mono : ∀ a0 a1 k, LeO (format_reader_spec.f k a0 a1) (format_reader_spec.f (k + 1) a0 a1) := by
 intro a0 a1 k
 obtain ⟨ih0, ih1, ih2⟩ := format_reader_spec.mono_l k
 unfold format_reader_spec.f
 repeat' first
   | (with_reducible exact ih0 _ _ _ _ _ _ _ _ _)
   | (with_reducible exact ih1 _ _ _ _ _ _ _ _ _)
   | (with_reducible exact ih2 _ _ _ _ _ _ _ _ _ _)
   | (with_reducible exact format_reader_number.mono _ _ _)
   | (with_reducible exact LeO.refl _)
   | (with_reducible exact LeO.none _)
   | (with_reducible refine LeO.ite ?_ ?_)
   | (with_reducible refine LeO.bind ?_ (fun _ => ?_))
   | exact ih0 _ _ _ _ _ _ _ _ _
   | exact ih1 _ _ _ _ _ _ _ _ _
   | exact ih2 _ _ _ _ _ _ _ _ _ _
   | exact format_reader_number.mono _ _ _
   | exact LeO.none _
   | refine LeO.ite ?_ ?_
   | refine LeO.bind ?_ (fun _ => ?_)
set_option maxHeartbeats 8000000 in
set_option maxRecDepth 100000 in
theorem format_reader_spec.calls (k : Nat) (g : Nat) (s0_0 : ByteArray) (s0_1 : Int) (r1 : Bool) (r2 : Bool) (r3 : Bool) (r4 : Bool) (r5 : Int) (r6 : Int) (r7 : Int) (r8 : Int) (r9 : ByteArray) (r10 : Int) (w0 w : World) (hI : IsS45 w0 w g s0_0 s0_1) (hB : Below w0.heap.size w0 w) (hT : TB w0) (h : format_reader_spec.f k s0_0 s0_1 = some (r1, r2, r3, r4, r5, r6, r7, r8, r9, r10)) :
  Calls Tryd.prog 19 #[.pointer (some ⟨g, 0, none⟩)] w fun e w' => e = .returned (.tuple #[.agg #[.bool r1, .bool r2, .bool r3, .bool r4, .int .i64 r5, .int .i64 r6, .int .u8 r7], .int .i64 r8]) ∧ IsS45 w0 w' g r9 r10 ∧ Below w0.heap.size w0 w' ∧ KeepBut w w' g none := by
 have hu54 := Tryd.underlying54
 have HI0 := Aside0.mk hI
 have HK := Aside0.mk (KeepBut.refl w g none)
 have HL := Aside0.mk hB.size
 clear hI
 have HW0 := Aside0.mk hB.size
 have HB := Aside0.mk hB
 clear hB
 have H : (format_reader_spec.l0 k s0_0 s0_1 false false false false 0 (-1) 0) = some (r1, r2, r3, r4, r5, r6, r7, r8, r9, r10) := h
 clear h
 have H' := Aside0.mk H
 clear H
 go_enter Tryd.func19, Tryd.ntmps19
 go_wp2_with (first | ((with_reducible refine gate_dst (N := 2) rfl ?_); (try (refine gate_guard (by rfl) ?_; dsimp only)); refine box_event ?hg (N := 2) ?hd (cs := #[.bool false, .bool false, .bool false, .bool false, .int .i64 0, .int .i64 0, .int .u8 0]) (t := 54) ?hr ?_; (case hd => rfl); (case hg => rfl); (case hr => first | (go_simp; done) | (go_simp; rfl)); intro gb160 hg w2 hbox hb; have n0_ := Aside0.mk (IsS45.below (by repeat (first | (with_reducible first | exact HI0.out | apply IsS45.alloc | apply IsS45.drewN | apply IsS45.drew | apply IsS45.set_0 | apply IsS45.set_1) | exact HI0.out)) hb); have n1_ := Aside0.mk (KeepBut.trans (by repeat (first | (with_reducible first | exact HK.out | apply KeepBut.set_ | apply keep_drewN | apply keep_drew | apply keep_alloc) | exact HK.out)) (KeepBut.of_below hb g none) (.inl rfl)); have n2_ := Aside0.mk (below_step (by repeat (first | (with_reducible first | exact HB.out | apply below_alloc | apply pw_below_drewN | apply below_drew1 | refine below_set ?_ (IsS45.ge HI0.out)) | exact HB.out)) hb); have n3_ := Aside0.mk (hbox); have n4_ := Aside0.mk ((by rw [hg]; exact (keep_size (w := w) (g := g) (row := none) (by repeat (first | (with_reducible first | exact HK.out | apply KeepBut.set_ | apply keep_drewN | apply keep_drew | apply keep_alloc) | exact HK.out))) : w.heap.size ≤ gb160)); have n5_ := Aside0.mk ((Nat.le_trans HW0.out (by rw [hg]; exact (keep_size (w := w) (g := g) (row := none) (by repeat (first | (with_reducible first | exact HK.out | apply KeepBut.set_ | apply keep_drewN | apply keep_drew | apply keep_alloc) | exact HK.out))) : w.heap.size ≤ gb160) : w0.heap.size ≤ gb160)); have n6_ := Aside0.mk ((by rw [hg]; exact Nat.ne_of_lt (IsS45.lt (show IsS45 w0 _ g s0_0 s0_1 from by repeat (first | (with_reducible first | exact HI0.out | apply IsS45.alloc | apply IsS45.drewN | apply IsS45.drew | apply IsS45.set_0 | apply IsS45.set_1) | exact HI0.out))) : g ≠ gb160)); have n7_ := Aside0.mk ((by rw [hg]; exact Nat.ne_of_gt (IsS45.lt (show IsS45 w0 _ g s0_0 s0_1 from by repeat (first | (with_reducible first | exact HI0.out | apply IsS45.alloc | apply IsS45.drewN | apply IsS45.drew | apply IsS45.set_0 | apply IsS45.set_1) | exact HI0.out))) : gb160 ≠ g)); clear HI0; clear HK; clear HB; have HI0 := n0_; have HK := n1_; have HB := n2_; have BK160 := n3_; have GW160 := n4_; have GE160 := n5_; have NB0_160 := n6_; have NB160_0 := n7_; clear n0_ n1_ n2_ n3_ n4_ n5_ n6_ n7_; clear hb hbox hg) | ((with_reducible refine gate_dst (N := 4) rfl ?_); (try (refine gate_guard (by rfl) ?_; dsimp only)); refine box_event ?hg (N := 4) ?hd (cs := #[.bool false, .bool false, .bool false, .bool false, .int .i64 0, .int .i64 0, .int .u8 0]) (t := 54) ?hr ?_; (case hd => rfl); (case hg => rfl); (case hr => first | (go_simp; done) | (go_simp; rfl)); intro gb161 hg w3 hbox hb; have n0_ := Aside0.mk (IsS45.below (by repeat (first | (with_reducible first | exact HI0.out | apply IsS45.alloc | apply IsS45.drewN | apply IsS45.drew | apply IsS45.set_0 | apply IsS45.set_1 | apply IsS45.far (hne := NB0_160.out)) | exact HI0.out)) hb); have n1_ := Aside0.mk (blk_below (g := gb160) (o := .cells #[.bool false, .bool false, .bool false, .bool false, .int .i64 0, .int .i64 0, .int .u8 0] 54 (0, 0)) (by (with_reducible repeat (first | refine blk_drewN ?_ _ | refine blk_drew ?_ | refine blk_alloc ?_ _)); exact BK160.out) hb); have n2_ := Aside0.mk (KeepBut.trans (by repeat (first | (with_reducible first | exact HK.out | apply KeepBut.set_ | apply keep_drewN | apply keep_drew | apply keep_alloc | refine keep_far ?_ GW160.out _) | exact HK.out)) (KeepBut.of_below hb g none) (.inl rfl)); have n3_ := Aside0.mk (below_step (by repeat (first | (with_reducible first | exact HB.out | apply below_alloc | apply pw_below_drewN | apply below_drew1 | refine below_set ?_ (IsS45.ge HI0.out) | refine below_set ?_ GE160.out) | exact HB.out)) hb); have n4_ := Aside0.mk (hbox); have n5_ := Aside0.mk ((by rw [hg]; exact (keep_size (w := w) (g := g) (row := none) (by repeat (first | (with_reducible first | exact HK.out | apply KeepBut.set_ | apply keep_drewN | apply keep_drew | apply keep_alloc | refine keep_far ?_ GW160.out _) | exact HK.out))) : w.heap.size ≤ gb161)); have n6_ := Aside0.mk ((Nat.le_trans HW0.out (by rw [hg]; exact (keep_size (w := w) (g := g) (row := none) (by repeat (first | (with_reducible first | exact HK.out | apply KeepBut.set_ | apply keep_drewN | apply keep_drew | apply keep_alloc | refine keep_far ?_ GW160.out _) | exact HK.out))) : w.heap.size ≤ gb161) : w0.heap.size ≤ gb161)); have n7_ := Aside0.mk ((by rw [hg]; exact Nat.ne_of_lt (blk_lt (g := gb160) (o := .cells #[.bool false, .bool false, .bool false, .bool false, .int .i64 0, .int .i64 0, .int .u8 0] 54 (0, 0)) (by (with_reducible repeat (first | refine blk_drewN ?_ _ | refine blk_drew ?_ | refine blk_alloc ?_ _)); exact BK160.out)) : gb160 ≠ gb161)); have n8_ := Aside0.mk ((by rw [hg]; exact Nat.ne_of_gt (blk_lt (g := gb160) (o := .cells #[.bool false, .bool false, .bool false, .bool false, .int .i64 0, .int .i64 0, .int .u8 0] 54 (0, 0)) (by (with_reducible repeat (first | refine blk_drewN ?_ _ | refine blk_drew ?_ | refine blk_alloc ?_ _)); exact BK160.out)) : gb161 ≠ gb160)); have n9_ := Aside0.mk ((by rw [hg]; exact Nat.ne_of_lt (IsS45.lt (show IsS45 w0 _ g s0_0 s0_1 from by repeat (first | (with_reducible first | exact HI0.out | apply IsS45.alloc | apply IsS45.drewN | apply IsS45.drew | apply IsS45.set_0 | apply IsS45.set_1 | apply IsS45.far (hne := NB0_160.out)) | exact HI0.out))) : g ≠ gb161)); have n10_ := Aside0.mk ((by rw [hg]; exact Nat.ne_of_gt (IsS45.lt (show IsS45 w0 _ g s0_0 s0_1 from by repeat (first | (with_reducible first | exact HI0.out | apply IsS45.alloc | apply IsS45.drewN | apply IsS45.drew | apply IsS45.set_0 | apply IsS45.set_1 | apply IsS45.far (hne := NB0_160.out)) | exact HI0.out))) : gb161 ≠ g)); clear HI0; clear BK160; clear HK; clear HB; have HI0 := n0_; have BK160 := n1_; have HK := n2_; have HB := n3_; have BK161 := n4_; have GW161 := n5_; have GE161 := n6_; have NB160_161 := n7_; have NB161_160 := n8_; have NB0_161 := n9_; have NB161_0 := n10_; clear n0_ n1_ n2_ n3_ n4_ n5_ n6_ n7_ n8_ n9_ n10_; clear hb hbox hg; have hnb4 := NB161_160.out; have hnc4 := NB160_161.out; have hnb5 := NB161_0.out; have hnc5 := NB0_161.out; have hcz6_0 : w3.cell? ⟨gb161, 0, none⟩ = some (.bool false) := (blk_cell BK161.out 0).trans rfl; have hcz6_1 : w3.cell? ⟨gb161, 1, none⟩ = some (.bool false) := (blk_cell BK161.out 1).trans rfl; have hcz6_2 : w3.cell? ⟨gb161, 2, none⟩ = some (.bool false) := (blk_cell BK161.out 2).trans rfl; have hcz6_3 : w3.cell? ⟨gb161, 3, none⟩ = some (.bool false) := (blk_cell BK161.out 3).trans rfl; have hcz6_4 : w3.cell? ⟨gb161, 4, none⟩ = some (.int .i64 0) := (blk_cell BK161.out 4).trans rfl; have hcz6_5 : w3.cell? ⟨gb161, 5, none⟩ = some (.int .i64 0) := (blk_cell BK161.out 5).trans rfl; have hcz6_6 : w3.cell? ⟨gb161, 6, none⟩ = some (.int .u8 0) := (blk_cell BK161.out 6).trans rfl; have hfz6_0 := blk_frozen BK161.out 0; have hfz6_1 := blk_frozen BK161.out 1; have hfz6_2 := blk_frozen BK161.out 2; have hfz6_3 := blk_frozen BK161.out 3; have hfz6_4 := blk_frozen BK161.out 4; have hfz6_5 := blk_frozen BK161.out 5; have hfz6_6 := blk_frozen BK161.out 6))
 apply wp_scope_straight
 go_wp2_with (first | ((with_reducible refine gate_dst (N := 2) rfl ?_); (try (refine gate_guard (by rfl) ?_; dsimp only)); refine box_event ?hg (N := 2) ?hd (cs := #[.bool false, .bool false, .bool false, .bool false, .int .i64 0, .int .i64 0, .int .u8 0]) (t := 54) ?hr ?_; (case hd => rfl); (case hg => rfl); (case hr => first | (go_simp; done) | (go_simp; rfl)); intro gb160 hg w2 hbox hb; have n0_ := Aside0.mk (IsS45.below (by repeat (first | (with_reducible first | exact HI0.out | apply IsS45.alloc | apply IsS45.drewN | apply IsS45.drew | apply IsS45.set_0 | apply IsS45.set_1) | exact HI0.out)) hb); have n1_ := Aside0.mk (KeepBut.trans (by repeat (first | (with_reducible first | exact HK.out | apply KeepBut.set_ | apply keep_drewN | apply keep_drew | apply keep_alloc) | exact HK.out)) (KeepBut.of_below hb g none) (.inl rfl)); have n2_ := Aside0.mk (below_step (by repeat (first | (with_reducible first | exact HB.out | apply below_alloc | apply pw_below_drewN | apply below_drew1 | refine below_set ?_ (IsS45.ge HI0.out)) | exact HB.out)) hb); have n3_ := Aside0.mk (hbox); have n4_ := Aside0.mk ((by rw [hg]; exact (keep_size (w := w) (g := g) (row := none) (by repeat (first | (with_reducible first | exact HK.out | apply KeepBut.set_ | apply keep_drewN | apply keep_drew | apply keep_alloc) | exact HK.out))) : w.heap.size ≤ gb160)); have n5_ := Aside0.mk ((Nat.le_trans HW0.out (by rw [hg]; exact (keep_size (w := w) (g := g) (row := none) (by repeat (first | (with_reducible first | exact HK.out | apply KeepBut.set_ | apply keep_drewN | apply keep_drew | apply keep_alloc) | exact HK.out))) : w.heap.size ≤ gb160) : w0.heap.size ≤ gb160)); have n6_ := Aside0.mk ((by rw [hg]; exact Nat.ne_of_lt (IsS45.lt (show IsS45 w0 _ g s0_0 s0_1 from by repeat (first | (with_reducible first | exact HI0.out | apply IsS45.alloc | apply IsS45.drewN | apply IsS45.drew | apply IsS45.set_0 | apply IsS45.set_1) | exact HI0.out))) : g ≠ gb160)); have n7_ := Aside0.mk ((by rw [hg]; exact Nat.ne_of_gt (IsS45.lt (show IsS45 w0 _ g s0_0 s0_1 from by repeat (first | (with_reducible first | exact HI0.out | apply IsS45.alloc | apply IsS45.drewN | apply IsS45.drew | apply IsS45.set_0 | apply IsS45.set_1) | exact HI0.out))) : gb160 ≠ g)); clear HI0; clear HK; clear HB; have HI0 := n0_; have HK := n1_; have HB := n2_; have BK160 := n3_; have GW160 := n4_; have GE160 := n5_; have NB0_160 := n6_; have NB160_0 := n7_; clear n0_ n1_ n2_ n3_ n4_ n5_ n6_ n7_; clear hb hbox hg) | ((with_reducible refine gate_dst (N := 4) rfl ?_); (try (refine gate_guard (by rfl) ?_; dsimp only)); refine box_event ?hg (N := 4) ?hd (cs := #[.bool false, .bool false, .bool false, .bool false, .int .i64 0, .int .i64 0, .int .u8 0]) (t := 54) ?hr ?_; (case hd => rfl); (case hg => rfl); (case hr => first | (go_simp; done) | (go_simp; rfl)); intro gb161 hg w3 hbox hb; have n0_ := Aside0.mk (IsS45.below (by repeat (first | (with_reducible first | exact HI0.out | apply IsS45.alloc | apply IsS45.drewN | apply IsS45.drew | apply IsS45.set_0 | apply IsS45.set_1 | apply IsS45.far (hne := NB0_160.out)) | exact HI0.out)) hb); have n1_ := Aside0.mk (blk_below (g := gb160) (o := .cells #[.bool false, .bool false, .bool false, .bool false, .int .i64 0, .int .i64 0, .int .u8 0] 54 (0, 0)) (by (with_reducible repeat (first | refine blk_drewN ?_ _ | refine blk_drew ?_ | refine blk_alloc ?_ _)); exact BK160.out) hb); have n2_ := Aside0.mk (KeepBut.trans (by repeat (first | (with_reducible first | exact HK.out | apply KeepBut.set_ | apply keep_drewN | apply keep_drew | apply keep_alloc | refine keep_far ?_ GW160.out _) | exact HK.out)) (KeepBut.of_below hb g none) (.inl rfl)); have n3_ := Aside0.mk (below_step (by repeat (first | (with_reducible first | exact HB.out | apply below_alloc | apply pw_below_drewN | apply below_drew1 | refine below_set ?_ (IsS45.ge HI0.out) | refine below_set ?_ GE160.out) | exact HB.out)) hb); have n4_ := Aside0.mk (hbox); have n5_ := Aside0.mk ((by rw [hg]; exact (keep_size (w := w) (g := g) (row := none) (by repeat (first | (with_reducible first | exact HK.out | apply KeepBut.set_ | apply keep_drewN | apply keep_drew | apply keep_alloc | refine keep_far ?_ GW160.out _) | exact HK.out))) : w.heap.size ≤ gb161)); have n6_ := Aside0.mk ((Nat.le_trans HW0.out (by rw [hg]; exact (keep_size (w := w) (g := g) (row := none) (by repeat (first | (with_reducible first | exact HK.out | apply KeepBut.set_ | apply keep_drewN | apply keep_drew | apply keep_alloc | refine keep_far ?_ GW160.out _) | exact HK.out))) : w.heap.size ≤ gb161) : w0.heap.size ≤ gb161)); have n7_ := Aside0.mk ((by rw [hg]; exact Nat.ne_of_lt (blk_lt (g := gb160) (o := .cells #[.bool false, .bool false, .bool false, .bool false, .int .i64 0, .int .i64 0, .int .u8 0] 54 (0, 0)) (by (with_reducible repeat (first | refine blk_drewN ?_ _ | refine blk_drew ?_ | refine blk_alloc ?_ _)); exact BK160.out)) : gb160 ≠ gb161)); have n8_ := Aside0.mk ((by rw [hg]; exact Nat.ne_of_gt (blk_lt (g := gb160) (o := .cells #[.bool false, .bool false, .bool false, .bool false, .int .i64 0, .int .i64 0, .int .u8 0] 54 (0, 0)) (by (with_reducible repeat (first | refine blk_drewN ?_ _ | refine blk_drew ?_ | refine blk_alloc ?_ _)); exact BK160.out)) : gb161 ≠ gb160)); have n9_ := Aside0.mk ((by rw [hg]; exact Nat.ne_of_lt (IsS45.lt (show IsS45 w0 _ g s0_0 s0_1 from by repeat (first | (with_reducible first | exact HI0.out | apply IsS45.alloc | apply IsS45.drewN | apply IsS45.drew | apply IsS45.set_0 | apply IsS45.set_1 | apply IsS45.far (hne := NB0_160.out)) | exact HI0.out))) : g ≠ gb161)); have n10_ := Aside0.mk ((by rw [hg]; exact Nat.ne_of_gt (IsS45.lt (show IsS45 w0 _ g s0_0 s0_1 from by repeat (first | (with_reducible first | exact HI0.out | apply IsS45.alloc | apply IsS45.drewN | apply IsS45.drew | apply IsS45.set_0 | apply IsS45.set_1 | apply IsS45.far (hne := NB0_160.out)) | exact HI0.out))) : gb161 ≠ g)); clear HI0; clear BK160; clear HK; clear HB; have HI0 := n0_; have BK160 := n1_; have HK := n2_; have HB := n3_; have BK161 := n4_; have GW161 := n5_; have GE161 := n6_; have NB160_161 := n7_; have NB161_160 := n8_; have NB0_161 := n9_; have NB161_0 := n10_; clear n0_ n1_ n2_ n3_ n4_ n5_ n6_ n7_ n8_ n9_ n10_; clear hb hbox hg; have hnb4 := NB161_160.out; have hnc4 := NB160_161.out; have hnb5 := NB161_0.out; have hnc5 := NB0_161.out; have hcz6_0 : w3.cell? ⟨gb161, 0, none⟩ = some (.bool false) := (blk_cell BK161.out 0).trans rfl; have hcz6_1 : w3.cell? ⟨gb161, 1, none⟩ = some (.bool false) := (blk_cell BK161.out 1).trans rfl; have hcz6_2 : w3.cell? ⟨gb161, 2, none⟩ = some (.bool false) := (blk_cell BK161.out 2).trans rfl; have hcz6_3 : w3.cell? ⟨gb161, 3, none⟩ = some (.bool false) := (blk_cell BK161.out 3).trans rfl; have hcz6_4 : w3.cell? ⟨gb161, 4, none⟩ = some (.int .i64 0) := (blk_cell BK161.out 4).trans rfl; have hcz6_5 : w3.cell? ⟨gb161, 5, none⟩ = some (.int .i64 0) := (blk_cell BK161.out 5).trans rfl; have hcz6_6 : w3.cell? ⟨gb161, 6, none⟩ = some (.int .u8 0) := (blk_cell BK161.out 6).trans rfl; have hfz6_0 := blk_frozen BK161.out 0; have hfz6_1 := blk_frozen BK161.out 1; have hfz6_2 := blk_frozen BK161.out 2; have hfz6_3 := blk_frozen BK161.out 3; have hfz6_4 := blk_frozen BK161.out 4; have hfz6_5 := blk_frozen BK161.out 5; have hfz6_6 := blk_frozen BK161.out 6))
 apply wp_label
 go_wp2
 go_loopg [] k (fun kq w' => ∃ (x1000_1 : ByteArray) (x1001_1 : Int) (x162000_1 : Bool) (x162001_1 : Bool) (x162002_1 : Bool) (x162003_1 : Bool), Aside0 (format_reader_spec.l0 kq x1000_1 x1001_1 x162000_1 x162001_1 x162002_1 x162003_1 0 (-1) 0 = some (r1, r2, r3, r4, r5, r6, r7, r8, r9, r10)) ∧ Aside0 (kq ≤ k) ∧ Aside0 (w'.heap[gb160]? = some (.cells #[.bool false, .bool false, .bool false, .bool false, .int .i64 0, .int .i64 0, .int .u8 0] 54 (0, 0))) ∧ Aside0 (w'.heap[gb161]? = some (.cells #[.bool x162000_1, .bool x162001_1, .bool x162002_1, .bool x162003_1, .int .i64 0, .int .i64 (-1), .int .u8 0] 54 (0, 0))) ∧ Aside0 (IsS45 w0 w' g x1000_1 x1001_1) ∧ Aside0 (KeepBut w w' g none) ∧ Aside0 (Below w0.heap.size w0 w'))
 case atStart => exact ⟨(s0_0), (s0_1), (false), (false), (false), (false), H', ⟨Nat.le_refl _⟩, ⟨by (with_reducible repeat (first | refine blk_drewN ?_ _ | refine blk_drew ?_ | refine blk_alloc ?_ _)); refine blk_far ?_ NB160_161.out _; (with_reducible repeat (first | refine blk_drewN ?_ _ | refine blk_drew ?_ | refine blk_alloc ?_ _)); refine blk_far ?_ NB160_161.out _; (with_reducible repeat (first | refine blk_drewN ?_ _ | refine blk_drew ?_ | refine blk_alloc ?_ _)); refine blk_far ?_ NB160_161.out _; (with_reducible repeat (first | refine blk_drewN ?_ _ | refine blk_drew ?_ | refine blk_alloc ?_ _)); refine blk_far ?_ NB160_161.out _; (with_reducible repeat (first | refine blk_drewN ?_ _ | refine blk_drew ?_ | refine blk_alloc ?_ _)); refine blk_far ?_ NB160_161.out _; (with_reducible repeat (first | refine blk_drewN ?_ _ | refine blk_drew ?_ | refine blk_alloc ?_ _)); refine blk_far ?_ NB160_161.out _; (with_reducible repeat (first | refine blk_drewN ?_ _ | refine blk_drew ?_ | refine blk_alloc ?_ _)); refine blk_far ?_ NB160_161.out _; (with_reducible repeat (first | refine blk_drewN ?_ _ | refine blk_drew ?_ | refine blk_alloc ?_ _)); exact BK160.out⟩, ⟨by (with_reducible repeat (first | refine blk_drewN ?_ _ | refine blk_drew ?_ | refine blk_alloc ?_ _)); refine blk_put (cs := #[.bool false, .bool false, .bool false, .bool false, .int .i64 0, .int .i64 (-1), .int .u8 0]) ?_ 6 _ rfl; (with_reducible repeat (first | refine blk_drewN ?_ _ | refine blk_drew ?_ | refine blk_alloc ?_ _)); refine blk_put (cs := #[.bool false, .bool false, .bool false, .bool false, .int .i64 0, .int .i64 0, .int .u8 0]) ?_ 5 _ rfl; (with_reducible repeat (first | refine blk_drewN ?_ _ | refine blk_drew ?_ | refine blk_alloc ?_ _)); refine blk_put (cs := #[.bool false, .bool false, .bool false, .bool false, .int .i64 0, .int .i64 0, .int .u8 0]) ?_ 4 _ rfl; (with_reducible repeat (first | refine blk_drewN ?_ _ | refine blk_drew ?_ | refine blk_alloc ?_ _)); refine blk_put (cs := #[.bool false, .bool false, .bool false, .bool false, .int .i64 0, .int .i64 0, .int .u8 0]) ?_ 3 _ rfl; (with_reducible repeat (first | refine blk_drewN ?_ _ | refine blk_drew ?_ | refine blk_alloc ?_ _)); refine blk_put (cs := #[.bool false, .bool false, .bool false, .bool false, .int .i64 0, .int .i64 0, .int .u8 0]) ?_ 2 _ rfl; (with_reducible repeat (first | refine blk_drewN ?_ _ | refine blk_drew ?_ | refine blk_alloc ?_ _)); refine blk_put (cs := #[.bool false, .bool false, .bool false, .bool false, .int .i64 0, .int .i64 0, .int .u8 0]) ?_ 1 _ rfl; (with_reducible repeat (first | refine blk_drewN ?_ _ | refine blk_drew ?_ | refine blk_alloc ?_ _)); refine blk_put (cs := #[.bool false, .bool false, .bool false, .bool false, .int .i64 0, .int .i64 0, .int .u8 0]) ?_ 0 _ rfl; (with_reducible repeat (first | refine blk_drewN ?_ _ | refine blk_drew ?_ | refine blk_alloc ?_ _)); exact BK161.out⟩, ⟨by repeat (first | (with_reducible first | exact HI0.out | apply IsS45.alloc | apply IsS45.drewN | apply IsS45.drew | apply IsS45.set_0 | apply IsS45.set_1 | apply IsS45.far (hne := NB0_160.out) | apply IsS45.far (hne := NB0_161.out)) | exact HI0.out)⟩, ⟨by repeat (first | (with_reducible first | exact HK.out | apply KeepBut.set_ | apply keep_drewN | apply keep_drew | apply keep_alloc | refine keep_far ?_ GW160.out _ | refine keep_far ?_ GW161.out _) | exact HK.out)⟩, ⟨by repeat (first | (with_reducible first | exact HB.out | apply below_alloc | apply pw_below_drewN | apply below_drew1 | refine below_set ?_ (IsS45.ge HI0.out) | refine below_set ?_ GE160.out | refine below_set ?_ GE161.out) | exact HB.out)⟩⟩
 case round =>
  clear H'
  try clear c1
  try clear p2
  try clear c4
  try clear c5
  try clear hcz6_0
  try clear hcz6_1
  try clear hcz6_2
  try clear hcz6_3
  try clear hcz6_4
  try clear hcz6_5
  try clear hcz6_6
  try clear hfz6_0
  try clear hfz6_1
  try clear hfz6_2
  try clear hfz6_3
  try clear hfz6_4
  try clear hfz6_5
  try clear hfz6_6
  obtain ⟨x1000_1, x1001_1, x162000_1, x162001_1, x162002_1, x162003_1, HA, HK1, BK160, BK161, HI0, HK, HB⟩ := hrel
  cases gk with
  | zero => exact absurd HA.out (by simp [format_reader_spec.l0])
  | succ k1 =>
   have H := HA.out
   clear HA
   simp only [format_reader_spec.l0] at H
   replace H := Option.bind_eq_some_iff.mp H
   obtain ⟨⟨t162, t163, t164⟩, A70, H⟩ := H
   replace H : (if t162 = 45 then (format_reader_spec.l0 k1 t163 (wrap64 (t164 + 1)) true x162001_1 x162002_1 x162003_1 0 (-1) 0) else (if t162 = 48 then (format_reader_spec.l0 k1 t163 (wrap64 (t164 + 1)) x162000_1 true x162002_1 x162003_1 0 (-1) 0) else (if t162 = 43 then (format_reader_spec.l0 k1 t163 (wrap64 (t164 + 1)) x162000_1 x162001_1 true x162003_1 0 (-1) 0) else (if t162 = 32 then (format_reader_spec.l0 k1 t163 (wrap64 (t164 + 1)) x162000_1 x162001_1 x162002_1 true 0 (-1) 0) else ((format_reader_number.f k1 t163 t164).bind fun bt165 => ((format_reader_next.f bt165.2.1 bt165.2.2).bind fun bt168 => (if bt168.1 = 46 then ((format_reader_number.f k1 bt168.2.1 (wrap64 (bt168.2.2 + 1))).bind fun bt171 => (format_reader_spec.j1 k1 bt171.2.1 bt171.2.2 x162000_1 x162001_1 x162002_1 x162003_1 bt165.1 bt171.1 0)) else (format_reader_spec.j1 k1 bt168.2.1 bt168.2.2 x162000_1 x162001_1 x162002_1 x162003_1 bt165.1 (-1) 0)))))))) = some (r1, r2, r3, r4, r5, r6, r7, r8, r9, r10) := H
   have A7 := Aside0.mk A70
   clear A70
   by_cases c8 : t162 = 45
   ·rw [if_pos c8] at H
    have c8b0 : (t162 == 45) = true := beq_iff_eq.mpr c8
    have c8b1 : (t162 != 45) = false := bne_eq_false_iff_eq.mpr c8
    clear c8
    have H' := Aside0.mk H
    clear H
    go_wp2_with (first | ((with_reducible refine gate_callee (f := 17) rfl ?_); refine goesL_ (some 7) rfl rfl Tryd.func17 (by kernel_rfl) rfl #[.pointer (some ⟨g, 0, none⟩)] rfl (by (try simp only [List.map_toArray, List.map_cons, List.map_nil]); first | done | rfl | (simp only [List.length_drop, List.length_take]; rfl)) ?_; (with_reducible refine (format_reader_next.calls g x1000_1 x1001_1 t162 t163 t164 w0 _ ?side1 ?side2 ?side3 A7.out).mono ?_); (case side1 => repeat (first | (with_reducible first | exact HI0.out | apply IsS45.alloc | apply IsS45.drewN | apply IsS45.drew | apply IsS45.set_0 | apply IsS45.set_1 | apply IsS45.far (hne := NB0_160.out) | apply IsS45.far (hne := NB0_161.out)) | exact HI0.out)); (case side2 => repeat (first | (with_reducible first | exact HB.out | apply below_alloc | apply pw_below_drewN | apply below_drew1 | refine below_set ?_ (IsS45.ge HI0.out) | refine below_set ?_ GE160.out | refine below_set ?_ GE161.out) | exact HB.out)); (case side3 => exact hT); rintro e w9 ⟨rfl, hi, hb, hk⟩; refine ⟨_, rfl, ?_⟩; have n0_ := Aside0.mk (KeepBut.blk hk (g' := gb160) (o := .cells #[.bool false, .bool false, .bool false, .bool false, .int .i64 0, .int .i64 0, .int .u8 0] 54 (0, 0)) (by (with_reducible repeat (first | refine blk_drewN ?_ _ | refine blk_drew ?_ | refine blk_alloc ?_ _)); exact BK160.out) NB160_0.out (by simp)); have n1_ := Aside0.mk (KeepBut.blk hk (g' := gb161) (o := .cells #[.bool x162000_1, .bool x162001_1, .bool x162002_1, .bool x162003_1, .int .i64 0, .int .i64 (-1), .int .u8 0] 54 (0, 0)) (by (with_reducible repeat (first | refine blk_drewN ?_ _ | refine blk_drew ?_ | refine blk_alloc ?_ _)); exact BK161.out) NB161_0.out (by simp)); have n2_ := Aside0.mk (KeepBut.trans (by repeat (first | (with_reducible first | exact HK.out | apply KeepBut.set_ | apply keep_drewN | apply keep_drew | apply keep_alloc | refine keep_far ?_ GW160.out _ | refine keep_far ?_ GW161.out _) | exact HK.out)) hk (.inl rfl)); have n3_ := Aside0.mk (hb); have n4_ := Aside0.mk (hi); clear BK160; clear BK161; clear HK; clear HB; clear HI0; have BK160 := n0_; have BK161 := n1_; have HK := n2_; have HB := n3_; have HI0 := n4_; clear n0_ n1_ n2_ n3_ n4_; (try clear hb); (try clear hb2); (try clear hk); (try clear hi); have hnb10 := NB161_160.out; have hnc10 := NB160_161.out; have hnb11 := NB161_0.out; have hnc11 := NB0_161.out; have hcz12_0 : w9.cell? ⟨gb161, 0, none⟩ = some (.bool x162000_1) := (blk_cell BK161.out 0).trans rfl; have hcz12_1 : w9.cell? ⟨gb161, 1, none⟩ = some (.bool x162001_1) := (blk_cell BK161.out 1).trans rfl; have hcz12_2 : w9.cell? ⟨gb161, 2, none⟩ = some (.bool x162002_1) := (blk_cell BK161.out 2).trans rfl; have hcz12_3 : w9.cell? ⟨gb161, 3, none⟩ = some (.bool x162003_1) := (blk_cell BK161.out 3).trans rfl; have hcz12_4 : w9.cell? ⟨gb161, 4, none⟩ = some (.int .i64 0) := (blk_cell BK161.out 4).trans rfl; have hcz12_5 : w9.cell? ⟨gb161, 5, none⟩ = some (.int .i64 (-1)) := (blk_cell BK161.out 5).trans rfl; have hcz12_6 : w9.cell? ⟨gb161, 6, none⟩ = some (.int .u8 0) := (blk_cell BK161.out 6).trans rfl; have hfz12_0 := blk_frozen BK161.out 0; have hfz12_1 := blk_frozen BK161.out 1; have hfz12_2 := blk_frozen BK161.out 2; have hfz12_3 := blk_frozen BK161.out 3; have hfz12_4 := blk_frozen BK161.out 4; have hfz12_5 := blk_frozen BK161.out 5; have hfz12_6 := blk_frozen BK161.out 6; obtain ⟨HGz13, hgz13⟩ := HI0.out; have hcz13_0 := cellS45_0 HGz13; have hcz13_1 := cellS45_1 HGz13; have hfz13_0 := blk_frozen HGz13 0; have hfz13_1 := blk_frozen HGz13 1; clear HGz13 hgz13))
    go_roundg k1
    case measure => have := HK1.out; omega
    case rel => exact ⟨(t163), (wrap64 (t164 + 1)), (true), (x162001_1), (x162002_1), (x162003_1), H', ⟨by have := HK1.out; omega⟩, ⟨by (with_reducible repeat (first | refine blk_drewN ?_ _ | refine blk_drew ?_ | refine blk_alloc ?_ _)); refine blk_far ?_ NB160_0.out _; (with_reducible repeat (first | refine blk_drewN ?_ _ | refine blk_drew ?_ | refine blk_alloc ?_ _)); refine blk_far ?_ NB160_161.out _; (with_reducible repeat (first | refine blk_drewN ?_ _ | refine blk_drew ?_ | refine blk_alloc ?_ _)); exact BK160.out⟩, ⟨by (with_reducible repeat (first | refine blk_drewN ?_ _ | refine blk_drew ?_ | refine blk_alloc ?_ _)); refine blk_far ?_ NB161_0.out _; (with_reducible repeat (first | refine blk_drewN ?_ _ | refine blk_drew ?_ | refine blk_alloc ?_ _)); refine blk_put (cs := #[.bool x162000_1, .bool x162001_1, .bool x162002_1, .bool x162003_1, .int .i64 0, .int .i64 (-1), .int .u8 0]) ?_ 0 _ rfl; (with_reducible repeat (first | refine blk_drewN ?_ _ | refine blk_drew ?_ | refine blk_alloc ?_ _)); exact BK161.out⟩, ⟨by repeat (first | (with_reducible first | exact HI0.out | apply IsS45.alloc | apply IsS45.drewN | apply IsS45.drew | apply IsS45.set_0 | apply IsS45.set_1 | apply IsS45.far (hne := NB0_160.out) | apply IsS45.far (hne := NB0_161.out)) | exact HI0.out)⟩, ⟨by repeat (first | (with_reducible first | exact HK.out | apply KeepBut.set_ | apply keep_drewN | apply keep_drew | apply keep_alloc | refine keep_far ?_ GW160.out _ | refine keep_far ?_ GW161.out _) | exact HK.out)⟩, ⟨by repeat (first | (with_reducible first | exact HB.out | apply below_alloc | apply pw_below_drewN | apply below_drew1 | refine below_set ?_ (IsS45.ge HI0.out) | refine below_set ?_ GE160.out | refine below_set ?_ GE161.out) | exact HB.out)⟩⟩
   ·rw [if_neg c8] at H
    have c8b0 : (t162 == 45) = false := beq_eq_false_iff_ne.mpr c8
    have c8b1 : (t162 != 45) = true := bne_iff_ne.mpr c8
    by_cases c14 : t162 = 48
    ·rw [if_pos c14] at H
     have c14b0 : (t162 == 48) = true := beq_iff_eq.mpr c14
     have c14b1 : (t162 != 48) = false := bne_eq_false_iff_eq.mpr c14
     clear c14
     have H' := Aside0.mk H
     clear H
     go_wp2_with (first | ((with_reducible refine gate_callee (f := 17) rfl ?_); refine goesL_ (some 7) rfl rfl Tryd.func17 (by kernel_rfl) rfl #[.pointer (some ⟨g, 0, none⟩)] rfl (by (try simp only [List.map_toArray, List.map_cons, List.map_nil]); first | done | rfl | (simp only [List.length_drop, List.length_take]; rfl)) ?_; (with_reducible refine (format_reader_next.calls g x1000_1 x1001_1 t162 t163 t164 w0 _ ?side1 ?side2 ?side3 A7.out).mono ?_); (case side1 => repeat (first | (with_reducible first | exact HI0.out | apply IsS45.alloc | apply IsS45.drewN | apply IsS45.drew | apply IsS45.set_0 | apply IsS45.set_1 | apply IsS45.far (hne := NB0_160.out) | apply IsS45.far (hne := NB0_161.out)) | exact HI0.out)); (case side2 => repeat (first | (with_reducible first | exact HB.out | apply below_alloc | apply pw_below_drewN | apply below_drew1 | refine below_set ?_ (IsS45.ge HI0.out) | refine below_set ?_ GE160.out | refine below_set ?_ GE161.out) | exact HB.out)); (case side3 => exact hT); rintro e w15 ⟨rfl, hi, hb, hk⟩; refine ⟨_, rfl, ?_⟩; have n0_ := Aside0.mk (KeepBut.blk hk (g' := gb160) (o := .cells #[.bool false, .bool false, .bool false, .bool false, .int .i64 0, .int .i64 0, .int .u8 0] 54 (0, 0)) (by (with_reducible repeat (first | refine blk_drewN ?_ _ | refine blk_drew ?_ | refine blk_alloc ?_ _)); exact BK160.out) NB160_0.out (by simp)); have n1_ := Aside0.mk (KeepBut.blk hk (g' := gb161) (o := .cells #[.bool x162000_1, .bool x162001_1, .bool x162002_1, .bool x162003_1, .int .i64 0, .int .i64 (-1), .int .u8 0] 54 (0, 0)) (by (with_reducible repeat (first | refine blk_drewN ?_ _ | refine blk_drew ?_ | refine blk_alloc ?_ _)); exact BK161.out) NB161_0.out (by simp)); have n2_ := Aside0.mk (KeepBut.trans (by repeat (first | (with_reducible first | exact HK.out | apply KeepBut.set_ | apply keep_drewN | apply keep_drew | apply keep_alloc | refine keep_far ?_ GW160.out _ | refine keep_far ?_ GW161.out _) | exact HK.out)) hk (.inl rfl)); have n3_ := Aside0.mk (hb); have n4_ := Aside0.mk (hi); clear BK160; clear BK161; clear HK; clear HB; clear HI0; have BK160 := n0_; have BK161 := n1_; have HK := n2_; have HB := n3_; have HI0 := n4_; clear n0_ n1_ n2_ n3_ n4_; (try clear hb); (try clear hb2); (try clear hk); (try clear hi); have hnb16 := NB161_160.out; have hnc16 := NB160_161.out; have hnb17 := NB161_0.out; have hnc17 := NB0_161.out; have hcz18_0 : w15.cell? ⟨gb161, 0, none⟩ = some (.bool x162000_1) := (blk_cell BK161.out 0).trans rfl; have hcz18_1 : w15.cell? ⟨gb161, 1, none⟩ = some (.bool x162001_1) := (blk_cell BK161.out 1).trans rfl; have hcz18_2 : w15.cell? ⟨gb161, 2, none⟩ = some (.bool x162002_1) := (blk_cell BK161.out 2).trans rfl; have hcz18_3 : w15.cell? ⟨gb161, 3, none⟩ = some (.bool x162003_1) := (blk_cell BK161.out 3).trans rfl; have hcz18_4 : w15.cell? ⟨gb161, 4, none⟩ = some (.int .i64 0) := (blk_cell BK161.out 4).trans rfl; have hcz18_5 : w15.cell? ⟨gb161, 5, none⟩ = some (.int .i64 (-1)) := (blk_cell BK161.out 5).trans rfl; have hcz18_6 : w15.cell? ⟨gb161, 6, none⟩ = some (.int .u8 0) := (blk_cell BK161.out 6).trans rfl; have hfz18_0 := blk_frozen BK161.out 0; have hfz18_1 := blk_frozen BK161.out 1; have hfz18_2 := blk_frozen BK161.out 2; have hfz18_3 := blk_frozen BK161.out 3; have hfz18_4 := blk_frozen BK161.out 4; have hfz18_5 := blk_frozen BK161.out 5; have hfz18_6 := blk_frozen BK161.out 6; obtain ⟨HGz19, hgz19⟩ := HI0.out; have hcz19_0 := cellS45_0 HGz19; have hcz19_1 := cellS45_1 HGz19; have hfz19_0 := blk_frozen HGz19 0; have hfz19_1 := blk_frozen HGz19 1; clear HGz19 hgz19))
     go_roundg k1
     case measure => have := HK1.out; omega
     case rel => exact ⟨(t163), (wrap64 (t164 + 1)), (x162000_1), (true), (x162002_1), (x162003_1), H', ⟨by have := HK1.out; omega⟩, ⟨by (with_reducible repeat (first | refine blk_drewN ?_ _ | refine blk_drew ?_ | refine blk_alloc ?_ _)); refine blk_far ?_ NB160_0.out _; (with_reducible repeat (first | refine blk_drewN ?_ _ | refine blk_drew ?_ | refine blk_alloc ?_ _)); refine blk_far ?_ NB160_161.out _; (with_reducible repeat (first | refine blk_drewN ?_ _ | refine blk_drew ?_ | refine blk_alloc ?_ _)); exact BK160.out⟩, ⟨by (with_reducible repeat (first | refine blk_drewN ?_ _ | refine blk_drew ?_ | refine blk_alloc ?_ _)); refine blk_far ?_ NB161_0.out _; (with_reducible repeat (first | refine blk_drewN ?_ _ | refine blk_drew ?_ | refine blk_alloc ?_ _)); refine blk_put (cs := #[.bool x162000_1, .bool x162001_1, .bool x162002_1, .bool x162003_1, .int .i64 0, .int .i64 (-1), .int .u8 0]) ?_ 1 _ rfl; (with_reducible repeat (first | refine blk_drewN ?_ _ | refine blk_drew ?_ | refine blk_alloc ?_ _)); exact BK161.out⟩, ⟨by repeat (first | (with_reducible first | exact HI0.out | apply IsS45.alloc | apply IsS45.drewN | apply IsS45.drew | apply IsS45.set_0 | apply IsS45.set_1 | apply IsS45.far (hne := NB0_160.out) | apply IsS45.far (hne := NB0_161.out)) | exact HI0.out)⟩, ⟨by repeat (first | (with_reducible first | exact HK.out | apply KeepBut.set_ | apply keep_drewN | apply keep_drew | apply keep_alloc | refine keep_far ?_ GW160.out _ | refine keep_far ?_ GW161.out _) | exact HK.out)⟩, ⟨by repeat (first | (with_reducible first | exact HB.out | apply below_alloc | apply pw_below_drewN | apply below_drew1 | refine below_set ?_ (IsS45.ge HI0.out) | refine below_set ?_ GE160.out | refine below_set ?_ GE161.out) | exact HB.out)⟩⟩
    ·rw [if_neg c14] at H
     have c14b0 : (t162 == 48) = false := beq_eq_false_iff_ne.mpr c14
     have c14b1 : (t162 != 48) = true := bne_iff_ne.mpr c14
     by_cases c20 : t162 = 43
     ·rw [if_pos c20] at H
      have c20b0 : (t162 == 43) = true := beq_iff_eq.mpr c20
      have c20b1 : (t162 != 43) = false := bne_eq_false_iff_eq.mpr c20
      clear c20
      have H' := Aside0.mk H
      clear H
      go_wp2_with (first | ((with_reducible refine gate_callee (f := 17) rfl ?_); refine goesL_ (some 7) rfl rfl Tryd.func17 (by kernel_rfl) rfl #[.pointer (some ⟨g, 0, none⟩)] rfl (by (try simp only [List.map_toArray, List.map_cons, List.map_nil]); first | done | rfl | (simp only [List.length_drop, List.length_take]; rfl)) ?_; (with_reducible refine (format_reader_next.calls g x1000_1 x1001_1 t162 t163 t164 w0 _ ?side1 ?side2 ?side3 A7.out).mono ?_); (case side1 => repeat (first | (with_reducible first | exact HI0.out | apply IsS45.alloc | apply IsS45.drewN | apply IsS45.drew | apply IsS45.set_0 | apply IsS45.set_1 | apply IsS45.far (hne := NB0_160.out) | apply IsS45.far (hne := NB0_161.out)) | exact HI0.out)); (case side2 => repeat (first | (with_reducible first | exact HB.out | apply below_alloc | apply pw_below_drewN | apply below_drew1 | refine below_set ?_ (IsS45.ge HI0.out) | refine below_set ?_ GE160.out | refine below_set ?_ GE161.out) | exact HB.out)); (case side3 => exact hT); rintro e w21 ⟨rfl, hi, hb, hk⟩; refine ⟨_, rfl, ?_⟩; have n0_ := Aside0.mk (KeepBut.blk hk (g' := gb160) (o := .cells #[.bool false, .bool false, .bool false, .bool false, .int .i64 0, .int .i64 0, .int .u8 0] 54 (0, 0)) (by (with_reducible repeat (first | refine blk_drewN ?_ _ | refine blk_drew ?_ | refine blk_alloc ?_ _)); exact BK160.out) NB160_0.out (by simp)); have n1_ := Aside0.mk (KeepBut.blk hk (g' := gb161) (o := .cells #[.bool x162000_1, .bool x162001_1, .bool x162002_1, .bool x162003_1, .int .i64 0, .int .i64 (-1), .int .u8 0] 54 (0, 0)) (by (with_reducible repeat (first | refine blk_drewN ?_ _ | refine blk_drew ?_ | refine blk_alloc ?_ _)); exact BK161.out) NB161_0.out (by simp)); have n2_ := Aside0.mk (KeepBut.trans (by repeat (first | (with_reducible first | exact HK.out | apply KeepBut.set_ | apply keep_drewN | apply keep_drew | apply keep_alloc | refine keep_far ?_ GW160.out _ | refine keep_far ?_ GW161.out _) | exact HK.out)) hk (.inl rfl)); have n3_ := Aside0.mk (hb); have n4_ := Aside0.mk (hi); clear BK160; clear BK161; clear HK; clear HB; clear HI0; have BK160 := n0_; have BK161 := n1_; have HK := n2_; have HB := n3_; have HI0 := n4_; clear n0_ n1_ n2_ n3_ n4_; (try clear hb); (try clear hb2); (try clear hk); (try clear hi); have hnb22 := NB161_160.out; have hnc22 := NB160_161.out; have hnb23 := NB161_0.out; have hnc23 := NB0_161.out; have hcz24_0 : w21.cell? ⟨gb161, 0, none⟩ = some (.bool x162000_1) := (blk_cell BK161.out 0).trans rfl; have hcz24_1 : w21.cell? ⟨gb161, 1, none⟩ = some (.bool x162001_1) := (blk_cell BK161.out 1).trans rfl; have hcz24_2 : w21.cell? ⟨gb161, 2, none⟩ = some (.bool x162002_1) := (blk_cell BK161.out 2).trans rfl; have hcz24_3 : w21.cell? ⟨gb161, 3, none⟩ = some (.bool x162003_1) := (blk_cell BK161.out 3).trans rfl; have hcz24_4 : w21.cell? ⟨gb161, 4, none⟩ = some (.int .i64 0) := (blk_cell BK161.out 4).trans rfl; have hcz24_5 : w21.cell? ⟨gb161, 5, none⟩ = some (.int .i64 (-1)) := (blk_cell BK161.out 5).trans rfl; have hcz24_6 : w21.cell? ⟨gb161, 6, none⟩ = some (.int .u8 0) := (blk_cell BK161.out 6).trans rfl; have hfz24_0 := blk_frozen BK161.out 0; have hfz24_1 := blk_frozen BK161.out 1; have hfz24_2 := blk_frozen BK161.out 2; have hfz24_3 := blk_frozen BK161.out 3; have hfz24_4 := blk_frozen BK161.out 4; have hfz24_5 := blk_frozen BK161.out 5; have hfz24_6 := blk_frozen BK161.out 6; obtain ⟨HGz25, hgz25⟩ := HI0.out; have hcz25_0 := cellS45_0 HGz25; have hcz25_1 := cellS45_1 HGz25; have hfz25_0 := blk_frozen HGz25 0; have hfz25_1 := blk_frozen HGz25 1; clear HGz25 hgz25))
      go_roundg k1
      case measure => have := HK1.out; omega
      case rel => exact ⟨(t163), (wrap64 (t164 + 1)), (x162000_1), (x162001_1), (true), (x162003_1), H', ⟨by have := HK1.out; omega⟩, ⟨by (with_reducible repeat (first | refine blk_drewN ?_ _ | refine blk_drew ?_ | refine blk_alloc ?_ _)); refine blk_far ?_ NB160_0.out _; (with_reducible repeat (first | refine blk_drewN ?_ _ | refine blk_drew ?_ | refine blk_alloc ?_ _)); refine blk_far ?_ NB160_161.out _; (with_reducible repeat (first | refine blk_drewN ?_ _ | refine blk_drew ?_ | refine blk_alloc ?_ _)); exact BK160.out⟩, ⟨by (with_reducible repeat (first | refine blk_drewN ?_ _ | refine blk_drew ?_ | refine blk_alloc ?_ _)); refine blk_far ?_ NB161_0.out _; (with_reducible repeat (first | refine blk_drewN ?_ _ | refine blk_drew ?_ | refine blk_alloc ?_ _)); refine blk_put (cs := #[.bool x162000_1, .bool x162001_1, .bool x162002_1, .bool x162003_1, .int .i64 0, .int .i64 (-1), .int .u8 0]) ?_ 2 _ rfl; (with_reducible repeat (first | refine blk_drewN ?_ _ | refine blk_drew ?_ | refine blk_alloc ?_ _)); exact BK161.out⟩, ⟨by repeat (first | (with_reducible first | exact HI0.out | apply IsS45.alloc | apply IsS45.drewN | apply IsS45.drew | apply IsS45.set_0 | apply IsS45.set_1 | apply IsS45.far (hne := NB0_160.out) | apply IsS45.far (hne := NB0_161.out)) | exact HI0.out)⟩, ⟨by repeat (first | (with_reducible first | exact HK.out | apply KeepBut.set_ | apply keep_drewN | apply keep_drew | apply keep_alloc | refine keep_far ?_ GW160.out _ | refine keep_far ?_ GW161.out _) | exact HK.out)⟩, ⟨by repeat (first | (with_reducible first | exact HB.out | apply below_alloc | apply pw_below_drewN | apply below_drew1 | refine below_set ?_ (IsS45.ge HI0.out) | refine below_set ?_ GE160.out | refine below_set ?_ GE161.out) | exact HB.out)⟩⟩
     ·rw [if_neg c20] at H
      have c20b0 : (t162 == 43) = false := beq_eq_false_iff_ne.mpr c20
      have c20b1 : (t162 != 43) = true := bne_iff_ne.mpr c20
      by_cases c26 : t162 = 32
      ·rw [if_pos c26] at H
       have c26b0 : (t162 == 32) = true := beq_iff_eq.mpr c26
       have c26b1 : (t162 != 32) = false := bne_eq_false_iff_eq.mpr c26
       clear c26
       have H' := Aside0.mk H
       clear H
       go_wp2_with (first | ((with_reducible refine gate_callee (f := 17) rfl ?_); refine goesL_ (some 7) rfl rfl Tryd.func17 (by kernel_rfl) rfl #[.pointer (some ⟨g, 0, none⟩)] rfl (by (try simp only [List.map_toArray, List.map_cons, List.map_nil]); first | done | rfl | (simp only [List.length_drop, List.length_take]; rfl)) ?_; (with_reducible refine (format_reader_next.calls g x1000_1 x1001_1 t162 t163 t164 w0 _ ?side1 ?side2 ?side3 A7.out).mono ?_); (case side1 => repeat (first | (with_reducible first | exact HI0.out | apply IsS45.alloc | apply IsS45.drewN | apply IsS45.drew | apply IsS45.set_0 | apply IsS45.set_1 | apply IsS45.far (hne := NB0_160.out) | apply IsS45.far (hne := NB0_161.out)) | exact HI0.out)); (case side2 => repeat (first | (with_reducible first | exact HB.out | apply below_alloc | apply pw_below_drewN | apply below_drew1 | refine below_set ?_ (IsS45.ge HI0.out) | refine below_set ?_ GE160.out | refine below_set ?_ GE161.out) | exact HB.out)); (case side3 => exact hT); rintro e w27 ⟨rfl, hi, hb, hk⟩; refine ⟨_, rfl, ?_⟩; have n0_ := Aside0.mk (KeepBut.blk hk (g' := gb160) (o := .cells #[.bool false, .bool false, .bool false, .bool false, .int .i64 0, .int .i64 0, .int .u8 0] 54 (0, 0)) (by (with_reducible repeat (first | refine blk_drewN ?_ _ | refine blk_drew ?_ | refine blk_alloc ?_ _)); exact BK160.out) NB160_0.out (by simp)); have n1_ := Aside0.mk (KeepBut.blk hk (g' := gb161) (o := .cells #[.bool x162000_1, .bool x162001_1, .bool x162002_1, .bool x162003_1, .int .i64 0, .int .i64 (-1), .int .u8 0] 54 (0, 0)) (by (with_reducible repeat (first | refine blk_drewN ?_ _ | refine blk_drew ?_ | refine blk_alloc ?_ _)); exact BK161.out) NB161_0.out (by simp)); have n2_ := Aside0.mk (KeepBut.trans (by repeat (first | (with_reducible first | exact HK.out | apply KeepBut.set_ | apply keep_drewN | apply keep_drew | apply keep_alloc | refine keep_far ?_ GW160.out _ | refine keep_far ?_ GW161.out _) | exact HK.out)) hk (.inl rfl)); have n3_ := Aside0.mk (hb); have n4_ := Aside0.mk (hi); clear BK160; clear BK161; clear HK; clear HB; clear HI0; have BK160 := n0_; have BK161 := n1_; have HK := n2_; have HB := n3_; have HI0 := n4_; clear n0_ n1_ n2_ n3_ n4_; (try clear hb); (try clear hb2); (try clear hk); (try clear hi); have hnb28 := NB161_160.out; have hnc28 := NB160_161.out; have hnb29 := NB161_0.out; have hnc29 := NB0_161.out; have hcz30_0 : w27.cell? ⟨gb161, 0, none⟩ = some (.bool x162000_1) := (blk_cell BK161.out 0).trans rfl; have hcz30_1 : w27.cell? ⟨gb161, 1, none⟩ = some (.bool x162001_1) := (blk_cell BK161.out 1).trans rfl; have hcz30_2 : w27.cell? ⟨gb161, 2, none⟩ = some (.bool x162002_1) := (blk_cell BK161.out 2).trans rfl; have hcz30_3 : w27.cell? ⟨gb161, 3, none⟩ = some (.bool x162003_1) := (blk_cell BK161.out 3).trans rfl; have hcz30_4 : w27.cell? ⟨gb161, 4, none⟩ = some (.int .i64 0) := (blk_cell BK161.out 4).trans rfl; have hcz30_5 : w27.cell? ⟨gb161, 5, none⟩ = some (.int .i64 (-1)) := (blk_cell BK161.out 5).trans rfl; have hcz30_6 : w27.cell? ⟨gb161, 6, none⟩ = some (.int .u8 0) := (blk_cell BK161.out 6).trans rfl; have hfz30_0 := blk_frozen BK161.out 0; have hfz30_1 := blk_frozen BK161.out 1; have hfz30_2 := blk_frozen BK161.out 2; have hfz30_3 := blk_frozen BK161.out 3; have hfz30_4 := blk_frozen BK161.out 4; have hfz30_5 := blk_frozen BK161.out 5; have hfz30_6 := blk_frozen BK161.out 6; obtain ⟨HGz31, hgz31⟩ := HI0.out; have hcz31_0 := cellS45_0 HGz31; have hcz31_1 := cellS45_1 HGz31; have hfz31_0 := blk_frozen HGz31 0; have hfz31_1 := blk_frozen HGz31 1; clear HGz31 hgz31))
       go_roundg k1
       case measure => have := HK1.out; omega
       case rel => exact ⟨(t163), (wrap64 (t164 + 1)), (x162000_1), (x162001_1), (x162002_1), (true), H', ⟨by have := HK1.out; omega⟩, ⟨by (with_reducible repeat (first | refine blk_drewN ?_ _ | refine blk_drew ?_ | refine blk_alloc ?_ _)); refine blk_far ?_ NB160_0.out _; (with_reducible repeat (first | refine blk_drewN ?_ _ | refine blk_drew ?_ | refine blk_alloc ?_ _)); refine blk_far ?_ NB160_161.out _; (with_reducible repeat (first | refine blk_drewN ?_ _ | refine blk_drew ?_ | refine blk_alloc ?_ _)); exact BK160.out⟩, ⟨by (with_reducible repeat (first | refine blk_drewN ?_ _ | refine blk_drew ?_ | refine blk_alloc ?_ _)); refine blk_far ?_ NB161_0.out _; (with_reducible repeat (first | refine blk_drewN ?_ _ | refine blk_drew ?_ | refine blk_alloc ?_ _)); refine blk_put (cs := #[.bool x162000_1, .bool x162001_1, .bool x162002_1, .bool x162003_1, .int .i64 0, .int .i64 (-1), .int .u8 0]) ?_ 3 _ rfl; (with_reducible repeat (first | refine blk_drewN ?_ _ | refine blk_drew ?_ | refine blk_alloc ?_ _)); exact BK161.out⟩, ⟨by repeat (first | (with_reducible first | exact HI0.out | apply IsS45.alloc | apply IsS45.drewN | apply IsS45.drew | apply IsS45.set_0 | apply IsS45.set_1 | apply IsS45.far (hne := NB0_160.out) | apply IsS45.far (hne := NB0_161.out)) | exact HI0.out)⟩, ⟨by repeat (first | (with_reducible first | exact HK.out | apply KeepBut.set_ | apply keep_drewN | apply keep_drew | apply keep_alloc | refine keep_far ?_ GW160.out _ | refine keep_far ?_ GW161.out _) | exact HK.out)⟩, ⟨by repeat (first | (with_reducible first | exact HB.out | apply below_alloc | apply pw_below_drewN | apply below_drew1 | refine below_set ?_ (IsS45.ge HI0.out) | refine below_set ?_ GE160.out | refine below_set ?_ GE161.out) | exact HB.out)⟩⟩
      ·rw [if_neg c26] at H
       have c26b0 : (t162 == 32) = false := beq_eq_false_iff_ne.mpr c26
       have c26b1 : (t162 != 32) = true := bne_iff_ne.mpr c26
       replace H := Option.bind_eq_some_iff.mp H
       obtain ⟨⟨t165, t166, t167⟩, A320, H⟩ := H
       replace H : ((format_reader_next.f t166 t167).bind fun bt168 => (if bt168.1 = 46 then ((format_reader_number.f k1 bt168.2.1 (wrap64 (bt168.2.2 + 1))).bind fun bt171 => (format_reader_spec.j1 k1 bt171.2.1 bt171.2.2 x162000_1 x162001_1 x162002_1 x162003_1 t165 bt171.1 0)) else (format_reader_spec.j1 k1 bt168.2.1 bt168.2.2 x162000_1 x162001_1 x162002_1 x162003_1 t165 (-1) 0))) = some (r1, r2, r3, r4, r5, r6, r7, r8, r9, r10) := H
       have A32 := Aside0.mk A320
       clear A320
       replace H := Option.bind_eq_some_iff.mp H
       obtain ⟨⟨t168, t169, t170⟩, A330, H⟩ := H
       replace H : (if t168 = 46 then ((format_reader_number.f k1 t169 (wrap64 (t170 + 1))).bind fun bt171 => (format_reader_spec.j1 k1 bt171.2.1 bt171.2.2 x162000_1 x162001_1 x162002_1 x162003_1 t165 bt171.1 0)) else (format_reader_spec.j1 k1 t169 t170 x162000_1 x162001_1 x162002_1 x162003_1 t165 (-1) 0)) = some (r1, r2, r3, r4, r5, r6, r7, r8, r9, r10) := H
       have A33 := Aside0.mk A330
       clear A330
       have HC34 := Aside0.mk H
       clear H
       go_upto_if 32 with (first | ((with_reducible refine gate_callee (f := 17) rfl ?_); refine goesL_ (some 7) rfl rfl Tryd.func17 (by kernel_rfl) rfl #[.pointer (some ⟨g, 0, none⟩)] rfl (by (try simp only [List.map_toArray, List.map_cons, List.map_nil]); first | done | rfl | (simp only [List.length_drop, List.length_take]; rfl)) ?_; (with_reducible refine (format_reader_next.calls g x1000_1 x1001_1 t162 t163 t164 w0 _ ?side1 ?side2 ?side3 A7.out).mono ?_); (case side1 => repeat (first | (with_reducible first | exact HI0.out | apply IsS45.alloc | apply IsS45.drewN | apply IsS45.drew | apply IsS45.set_0 | apply IsS45.set_1 | apply IsS45.far (hne := NB0_160.out) | apply IsS45.far (hne := NB0_161.out)) | exact HI0.out)); (case side2 => repeat (first | (with_reducible first | exact HB.out | apply below_alloc | apply pw_below_drewN | apply below_drew1 | refine below_set ?_ (IsS45.ge HI0.out) | refine below_set ?_ GE160.out | refine below_set ?_ GE161.out) | exact HB.out)); (case side3 => exact hT); rintro e w35 ⟨rfl, hi, hb, hk⟩; refine ⟨_, rfl, ?_⟩; have n0_ := Aside0.mk (KeepBut.blk hk (g' := gb160) (o := .cells #[.bool false, .bool false, .bool false, .bool false, .int .i64 0, .int .i64 0, .int .u8 0] 54 (0, 0)) (by (with_reducible repeat (first | refine blk_drewN ?_ _ | refine blk_drew ?_ | refine blk_alloc ?_ _)); exact BK160.out) NB160_0.out (by simp)); have n1_ := Aside0.mk (KeepBut.blk hk (g' := gb161) (o := .cells #[.bool x162000_1, .bool x162001_1, .bool x162002_1, .bool x162003_1, .int .i64 0, .int .i64 (-1), .int .u8 0] 54 (0, 0)) (by (with_reducible repeat (first | refine blk_drewN ?_ _ | refine blk_drew ?_ | refine blk_alloc ?_ _)); exact BK161.out) NB161_0.out (by simp)); have n2_ := Aside0.mk (KeepBut.trans (by repeat (first | (with_reducible first | exact HK.out | apply KeepBut.set_ | apply keep_drewN | apply keep_drew | apply keep_alloc | refine keep_far ?_ GW160.out _ | refine keep_far ?_ GW161.out _) | exact HK.out)) hk (.inl rfl)); have n3_ := Aside0.mk (hb); have n4_ := Aside0.mk (hi); clear BK160; clear BK161; clear HK; clear HB; clear HI0; have BK160 := n0_; have BK161 := n1_; have HK := n2_; have HB := n3_; have HI0 := n4_; clear n0_ n1_ n2_ n3_ n4_; (try clear hb); (try clear hb2); (try clear hk); (try clear hi)) | ((with_reducible refine gate_callee (f := 29) rfl ?_); refine goesL_ (some 28) rfl rfl Tryd.func29 (by kernel_rfl) rfl #[.pointer (some ⟨g, 0, none⟩)] rfl (by (try simp only [List.map_toArray, List.map_cons, List.map_nil]); first | done | rfl | (simp only [List.length_drop, List.length_take]; rfl)) ?_; (with_reducible refine (format_reader_number.calls k1 g t163 t164 t165 t166 t167 w0 _ ?side1 ?side2 ?side3 A32.out).mono ?_); (case side1 => repeat (first | (with_reducible first | exact HI0.out | apply IsS45.alloc | apply IsS45.drewN | apply IsS45.drew | apply IsS45.set_0 | apply IsS45.set_1 | apply IsS45.far (hne := NB0_160.out) | apply IsS45.far (hne := NB0_161.out)) | exact HI0.out)); (case side2 => repeat (first | (with_reducible first | exact HB.out | apply below_alloc | apply pw_below_drewN | apply below_drew1 | refine below_set ?_ (IsS45.ge HI0.out) | refine below_set ?_ GE160.out | refine below_set ?_ GE161.out) | exact HB.out)); (case side3 => exact hT); rintro e w36 ⟨rfl, hi, hb, hk⟩; refine ⟨_, rfl, ?_⟩; have n0_ := Aside0.mk (KeepBut.blk hk (g' := gb160) (o := .cells #[.bool false, .bool false, .bool false, .bool false, .int .i64 0, .int .i64 0, .int .u8 0] 54 (0, 0)) (by (with_reducible repeat (first | refine blk_drewN ?_ _ | refine blk_drew ?_ | refine blk_alloc ?_ _)); exact BK160.out) NB160_0.out (by simp)); have n1_ := Aside0.mk (KeepBut.blk hk (g' := gb161) (o := .cells #[.bool x162000_1, .bool x162001_1, .bool x162002_1, .bool x162003_1, .int .i64 0, .int .i64 (-1), .int .u8 0] 54 (0, 0)) (by (with_reducible repeat (first | refine blk_drewN ?_ _ | refine blk_drew ?_ | refine blk_alloc ?_ _)); exact BK161.out) NB161_0.out (by simp)); have n2_ := Aside0.mk (KeepBut.trans (by repeat (first | (with_reducible first | exact HK.out | apply KeepBut.set_ | apply keep_drewN | apply keep_drew | apply keep_alloc | refine keep_far ?_ GW160.out _ | refine keep_far ?_ GW161.out _) | exact HK.out)) hk (.inl rfl)); have n3_ := Aside0.mk (hb); have n4_ := Aside0.mk (hi); clear BK160; clear BK161; clear HK; clear HB; clear HI0; have BK160 := n0_; have BK161 := n1_; have HK := n2_; have HB := n3_; have HI0 := n4_; clear n0_ n1_ n2_ n3_ n4_; (try clear hb); (try clear hb2); (try clear hk); (try clear hi); have hnb37 := NB161_160.out; have hnc37 := NB160_161.out; have hnb38 := NB161_0.out; have hnc38 := NB0_161.out; have hcz39_0 : w36.cell? ⟨gb161, 0, none⟩ = some (.bool x162000_1) := (blk_cell BK161.out 0).trans rfl; have hcz39_1 : w36.cell? ⟨gb161, 1, none⟩ = some (.bool x162001_1) := (blk_cell BK161.out 1).trans rfl; have hcz39_2 : w36.cell? ⟨gb161, 2, none⟩ = some (.bool x162002_1) := (blk_cell BK161.out 2).trans rfl; have hcz39_3 : w36.cell? ⟨gb161, 3, none⟩ = some (.bool x162003_1) := (blk_cell BK161.out 3).trans rfl; have hcz39_4 : w36.cell? ⟨gb161, 4, none⟩ = some (.int .i64 0) := (blk_cell BK161.out 4).trans rfl; have hcz39_5 : w36.cell? ⟨gb161, 5, none⟩ = some (.int .i64 (-1)) := (blk_cell BK161.out 5).trans rfl; have hcz39_6 : w36.cell? ⟨gb161, 6, none⟩ = some (.int .u8 0) := (blk_cell BK161.out 6).trans rfl; have hfz39_0 := blk_frozen BK161.out 0; have hfz39_1 := blk_frozen BK161.out 1; have hfz39_2 := blk_frozen BK161.out 2; have hfz39_3 := blk_frozen BK161.out 3; have hfz39_4 := blk_frozen BK161.out 4; have hfz39_5 := blk_frozen BK161.out 5; have hfz39_6 := blk_frozen BK161.out 6) | ((with_reducible refine gate_callee (f := 17) rfl ?_); refine goesL_ (some 31) rfl rfl Tryd.func17 (by kernel_rfl) rfl #[.pointer (some ⟨g, 0, none⟩)] rfl (by (try simp only [List.map_toArray, List.map_cons, List.map_nil]); first | done | rfl | (simp only [List.length_drop, List.length_take]; rfl)) ?_; (with_reducible refine (format_reader_next.calls g t166 t167 t168 t169 t170 w0 _ ?side1 ?side2 ?side3 A33.out).mono ?_); (case side1 => repeat (first | (with_reducible first | exact HI0.out | apply IsS45.alloc | apply IsS45.drewN | apply IsS45.drew | apply IsS45.set_0 | apply IsS45.set_1 | apply IsS45.far (hne := NB0_160.out) | apply IsS45.far (hne := NB0_161.out)) | exact HI0.out)); (case side2 => repeat (first | (with_reducible first | exact HB.out | apply below_alloc | apply pw_below_drewN | apply below_drew1 | refine below_set ?_ (IsS45.ge HI0.out) | refine below_set ?_ GE160.out | refine below_set ?_ GE161.out) | exact HB.out)); (case side3 => exact hT); rintro e w40 ⟨rfl, hi, hb, hk⟩; refine ⟨_, rfl, ?_⟩; have n0_ := Aside0.mk (KeepBut.blk hk (g' := gb160) (o := .cells #[.bool false, .bool false, .bool false, .bool false, .int .i64 0, .int .i64 0, .int .u8 0] 54 (0, 0)) (by (with_reducible repeat (first | refine blk_drewN ?_ _ | refine blk_drew ?_ | refine blk_alloc ?_ _)); refine blk_far ?_ NB160_161.out _; (with_reducible repeat (first | refine blk_drewN ?_ _ | refine blk_drew ?_ | refine blk_alloc ?_ _)); exact BK160.out) NB160_0.out (by simp)); have n1_ := Aside0.mk (KeepBut.blk hk (g' := gb161) (o := .cells #[.bool x162000_1, .bool x162001_1, .bool x162002_1, .bool x162003_1, .int .i64 t165, .int .i64 (-1), .int .u8 0] 54 (0, 0)) (by (with_reducible repeat (first | refine blk_drewN ?_ _ | refine blk_drew ?_ | refine blk_alloc ?_ _)); refine blk_put (cs := #[.bool x162000_1, .bool x162001_1, .bool x162002_1, .bool x162003_1, .int .i64 0, .int .i64 (-1), .int .u8 0]) ?_ 4 _ rfl; (with_reducible repeat (first | refine blk_drewN ?_ _ | refine blk_drew ?_ | refine blk_alloc ?_ _)); exact BK161.out) NB161_0.out (by simp)); have n2_ := Aside0.mk (KeepBut.trans (by repeat (first | (with_reducible first | exact HK.out | apply KeepBut.set_ | apply keep_drewN | apply keep_drew | apply keep_alloc | refine keep_far ?_ GW160.out _ | refine keep_far ?_ GW161.out _) | exact HK.out)) hk (.inl rfl)); have n3_ := Aside0.mk (hb); have n4_ := Aside0.mk (hi); clear BK160; clear BK161; clear HK; clear HB; clear HI0; have BK160 := n0_; have BK161 := n1_; have HK := n2_; have HB := n3_; have HI0 := n4_; clear n0_ n1_ n2_ n3_ n4_; (try clear hb); (try clear hb2); (try clear hk); (try clear hi)))
       (try simp only [Act.put, List.setIfInBounds_toArray, List.set_cons_zero, List.set_cons_succ])
       go_cut [] (fun wc => ∃ (kq : Nat) (x1000_33 : ByteArray) (x1001_33 : Int) (x162005_33 : Int), Aside0 (format_reader_spec.j1 kq x1000_33 x1001_33 x162000_1 x162001_1 x162002_1 x162003_1 t165 x162005_33 0 = some (r1, r2, r3, r4, r5, r6, r7, r8, r9, r10)) ∧ Aside0 (kq ≤ k1) ∧ Aside0 (wc.heap[gb160]? = some (.cells #[.bool false, .bool false, .bool false, .bool false, .int .i64 0, .int .i64 0, .int .u8 0] 54 (0, 0))) ∧ Aside0 (wc.heap[gb161]? = some (.cells #[.bool x162000_1, .bool x162001_1, .bool x162002_1, .bool x162003_1, .int .i64 t165, .int .i64 x162005_33, .int .u8 0] 54 (0, 0))) ∧ Aside0 (IsS45 w0 wc g x1000_33 x1001_33) ∧ Aside0 (KeepBut w wc g none) ∧ Aside0 (Below w0.heap.size w0 wc))
       case first =>
        have H := HC34.out
        clear HC34
        by_cases c41 : t168 = 46
        ·rw [if_pos c41] at H
         have c41b0 : (t168 == 46) = true := beq_iff_eq.mpr c41
         have c41b1 : (t168 != 46) = false := bne_eq_false_iff_eq.mpr c41
         clear c41
         (first | rw [c41b0] | (simp only [i64_w, i32_w]; rw [c41b0]) | skip)
         replace H := Option.bind_eq_some_iff.mp H
         obtain ⟨⟨t171, t172, t173⟩, A420, H⟩ := H
         replace H : (format_reader_spec.j1 k1 t172 t173 x162000_1 x162001_1 x162002_1 x162003_1 t165 t171 0) = some (r1, r2, r3, r4, r5, r6, r7, r8, r9, r10) := H
         have A42 := Aside0.mk A420
         clear A420
         have H' := Aside0.mk H
         clear H
         obtain ⟨HGz43, hgz43⟩ := HI0.out
         have hcz43_0 := cellS45_0 HGz43
         have hcz43_1 := cellS45_1 HGz43
         have hfz43_0 := blk_frozen HGz43 0
         have hfz43_1 := blk_frozen HGz43 1
         clear HGz43 hgz43
         go_wp2_with (first | ((with_reducible refine gate_callee (f := 29) rfl ?_); refine goesL_ (some 41) rfl rfl Tryd.func29 (by kernel_rfl) rfl #[.pointer (some ⟨g, 0, none⟩)] rfl (by (try simp only [List.map_toArray, List.map_cons, List.map_nil]); first | done | rfl | (simp only [List.length_drop, List.length_take]; rfl)) ?_; (with_reducible refine (format_reader_number.calls k1 g t169 (wrap64 (t170 + 1)) t171 t172 t173 w0 _ ?side1 ?side2 ?side3 A42.out).mono ?_); (case side1 => repeat (first | (with_reducible first | exact HI0.out | apply IsS45.alloc | apply IsS45.drewN | apply IsS45.drew | apply IsS45.set_0 | apply IsS45.set_1 | apply IsS45.far (hne := NB0_160.out) | apply IsS45.far (hne := NB0_161.out)) | exact HI0.out)); (case side2 => repeat (first | (with_reducible first | exact HB.out | apply below_alloc | apply pw_below_drewN | apply below_drew1 | refine below_set ?_ (IsS45.ge HI0.out) | refine below_set ?_ GE160.out | refine below_set ?_ GE161.out) | exact HB.out)); (case side3 => exact hT); rintro e w44 ⟨rfl, hi, hb, hk⟩; refine ⟨_, rfl, ?_⟩; have n0_ := Aside0.mk (KeepBut.blk hk (g' := gb160) (o := .cells #[.bool false, .bool false, .bool false, .bool false, .int .i64 0, .int .i64 0, .int .u8 0] 54 (0, 0)) (by (with_reducible repeat (first | refine blk_drewN ?_ _ | refine blk_drew ?_ | refine blk_alloc ?_ _)); refine blk_far ?_ NB160_0.out _; (with_reducible repeat (first | refine blk_drewN ?_ _ | refine blk_drew ?_ | refine blk_alloc ?_ _)); exact BK160.out) NB160_0.out (by simp)); have n1_ := Aside0.mk (KeepBut.blk hk (g' := gb161) (o := .cells #[.bool x162000_1, .bool x162001_1, .bool x162002_1, .bool x162003_1, .int .i64 t165, .int .i64 (-1), .int .u8 0] 54 (0, 0)) (by (with_reducible repeat (first | refine blk_drewN ?_ _ | refine blk_drew ?_ | refine blk_alloc ?_ _)); refine blk_far ?_ NB161_0.out _; (with_reducible repeat (first | refine blk_drewN ?_ _ | refine blk_drew ?_ | refine blk_alloc ?_ _)); exact BK161.out) NB161_0.out (by simp)); have n2_ := Aside0.mk (KeepBut.trans (by repeat (first | (with_reducible first | exact HK.out | apply KeepBut.set_ | apply keep_drewN | apply keep_drew | apply keep_alloc | refine keep_far ?_ GW160.out _ | refine keep_far ?_ GW161.out _) | exact HK.out)) hk (.inl rfl)); have n3_ := Aside0.mk (hb); have n4_ := Aside0.mk (hi); clear BK160; clear BK161; clear HK; clear HB; clear HI0; have BK160 := n0_; have BK161 := n1_; have HK := n2_; have HB := n3_; have HI0 := n4_; clear n0_ n1_ n2_ n3_ n4_; (try clear hb); (try clear hb2); (try clear hk); (try clear hi); have hnb45 := NB161_160.out; have hnc45 := NB160_161.out; have hnb46 := NB161_0.out; have hnc46 := NB0_161.out; have hcz47_0 : w44.cell? ⟨gb161, 0, none⟩ = some (.bool x162000_1) := (blk_cell BK161.out 0).trans rfl; have hcz47_1 : w44.cell? ⟨gb161, 1, none⟩ = some (.bool x162001_1) := (blk_cell BK161.out 1).trans rfl; have hcz47_2 : w44.cell? ⟨gb161, 2, none⟩ = some (.bool x162002_1) := (blk_cell BK161.out 2).trans rfl; have hcz47_3 : w44.cell? ⟨gb161, 3, none⟩ = some (.bool x162003_1) := (blk_cell BK161.out 3).trans rfl; have hcz47_4 : w44.cell? ⟨gb161, 4, none⟩ = some (.int .i64 t165) := (blk_cell BK161.out 4).trans rfl; have hcz47_5 : w44.cell? ⟨gb161, 5, none⟩ = some (.int .i64 (-1)) := (blk_cell BK161.out 5).trans rfl; have hcz47_6 : w44.cell? ⟨gb161, 6, none⟩ = some (.int .u8 0) := (blk_cell BK161.out 6).trans rfl; have hfz47_0 := blk_frozen BK161.out 0; have hfz47_1 := blk_frozen BK161.out 1; have hfz47_2 := blk_frozen BK161.out 2; have hfz47_3 := blk_frozen BK161.out 3; have hfz47_4 := blk_frozen BK161.out 4; have hfz47_5 := blk_frozen BK161.out 5; have hfz47_6 := blk_frozen BK161.out 6))
         go_meet
         case rel => exact ⟨_, (t172), (t173), (t171), H', ⟨by have := HK1.out; first | omega | exact Nat.le_refl _⟩, ⟨by (with_reducible repeat (first | refine blk_drewN ?_ _ | refine blk_drew ?_ | refine blk_alloc ?_ _)); refine blk_far ?_ NB160_161.out _; (with_reducible repeat (first | refine blk_drewN ?_ _ | refine blk_drew ?_ | refine blk_alloc ?_ _)); exact BK160.out⟩, ⟨by (with_reducible repeat (first | refine blk_drewN ?_ _ | refine blk_drew ?_ | refine blk_alloc ?_ _)); refine blk_put (cs := #[.bool x162000_1, .bool x162001_1, .bool x162002_1, .bool x162003_1, .int .i64 t165, .int .i64 (-1), .int .u8 0]) ?_ 5 _ rfl; (with_reducible repeat (first | refine blk_drewN ?_ _ | refine blk_drew ?_ | refine blk_alloc ?_ _)); exact BK161.out⟩, ⟨by repeat (first | (with_reducible first | exact HI0.out | apply IsS45.alloc | apply IsS45.drewN | apply IsS45.drew | apply IsS45.set_0 | apply IsS45.set_1 | apply IsS45.far (hne := NB0_160.out) | apply IsS45.far (hne := NB0_161.out)) | exact HI0.out)⟩, ⟨by repeat (first | (with_reducible first | exact HK.out | apply KeepBut.set_ | apply keep_drewN | apply keep_drew | apply keep_alloc | refine keep_far ?_ GW160.out _ | refine keep_far ?_ GW161.out _) | exact HK.out)⟩, ⟨by repeat (first | (with_reducible first | exact HB.out | apply below_alloc | apply pw_below_drewN | apply below_drew1 | refine below_set ?_ (IsS45.ge HI0.out) | refine below_set ?_ GE160.out | refine below_set ?_ GE161.out) | exact HB.out)⟩⟩
        ·rw [if_neg c41] at H
         have c41b0 : (t168 == 46) = false := beq_eq_false_iff_ne.mpr c41
         have c41b1 : (t168 != 46) = true := bne_iff_ne.mpr c41
         (first | rw [c41b0] | (simp only [i64_w, i32_w]; rw [c41b0]) | skip)
         have H' := Aside0.mk H
         clear H
         go_wp2
         go_meet
         case rel => exact ⟨_, (t169), (t170), ((-1)), H', ⟨by have := HK1.out; first | omega | exact Nat.le_refl _⟩, ⟨by (with_reducible repeat (first | refine blk_drewN ?_ _ | refine blk_drew ?_ | refine blk_alloc ?_ _)); exact BK160.out⟩, ⟨by (with_reducible repeat (first | refine blk_drewN ?_ _ | refine blk_drew ?_ | refine blk_alloc ?_ _)); exact BK161.out⟩, ⟨by repeat (first | (with_reducible first | exact HI0.out | apply IsS45.alloc | apply IsS45.drewN | apply IsS45.drew | apply IsS45.set_0 | apply IsS45.set_1 | apply IsS45.far (hne := NB0_160.out) | apply IsS45.far (hne := NB0_161.out)) | exact HI0.out)⟩, ⟨by repeat (first | (with_reducible first | exact HK.out | apply KeepBut.set_ | apply keep_drewN | apply keep_drew | apply keep_alloc | refine keep_far ?_ GW160.out _ | refine keep_far ?_ GW161.out _) | exact HK.out)⟩, ⟨by repeat (first | (with_reducible first | exact HB.out | apply below_alloc | apply pw_below_drewN | apply below_drew1 | refine below_set ?_ (IsS45.ge HI0.out) | refine below_set ?_ GE160.out | refine below_set ?_ GE161.out) | exact HB.out)⟩⟩
       case rest =>
        clear HC34
        try clear c1
        try clear c2
        try clear p2
        try clear c3
        try clear c4
        try clear c5
        try clear p6
        try clear c8
        try clear c8b0
        try clear c8b1
        try clear c10
        try clear c11
        try clear c14
        try clear c14b0
        try clear c14b1
        try clear c16
        try clear c17
        try clear c19
        try clear c20
        try clear c20b0
        try clear c20b1
        try clear c22
        try clear c23
        try clear c26
        try clear c26b0
        try clear c26b1
        try clear c28
        try clear c29
        try clear c37
        try clear c38
        try clear c41
        try clear c41b0
        try clear c41b1
        try clear c45
        try clear c46
        try clear hcz12_0
        try clear hcz12_1
        try clear hcz12_2
        try clear hcz12_3
        try clear hcz12_4
        try clear hcz12_5
        try clear hcz12_6
        try clear hcz13_0
        try clear hcz13_1
        try clear hcz18_0
        try clear hcz18_1
        try clear hcz18_2
        try clear hcz18_3
        try clear hcz18_4
        try clear hcz18_5
        try clear hcz18_6
        try clear hcz19_0
        try clear hcz19_1
        try clear hcz24_0
        try clear hcz24_1
        try clear hcz24_2
        try clear hcz24_3
        try clear hcz24_4
        try clear hcz24_5
        try clear hcz24_6
        try clear hcz25_0
        try clear hcz25_1
        try clear hcz30_0
        try clear hcz30_1
        try clear hcz30_2
        try clear hcz30_3
        try clear hcz30_4
        try clear hcz30_5
        try clear hcz30_6
        try clear hcz31_0
        try clear hcz31_1
        try clear hcz39_0
        try clear hcz39_1
        try clear hcz39_2
        try clear hcz39_3
        try clear hcz39_4
        try clear hcz39_5
        try clear hcz39_6
        try clear hcz43_0
        try clear hcz43_1
        try clear hcz47_0
        try clear hcz47_1
        try clear hcz47_2
        try clear hcz47_3
        try clear hcz47_4
        try clear hcz47_5
        try clear hcz47_6
        try clear hcz6_0
        try clear hcz6_1
        try clear hcz6_2
        try clear hcz6_3
        try clear hcz6_4
        try clear hcz6_5
        try clear hcz6_6
        try clear hfz12_0
        try clear hfz12_1
        try clear hfz12_2
        try clear hfz12_3
        try clear hfz12_4
        try clear hfz12_5
        try clear hfz12_6
        try clear hfz13_0
        try clear hfz13_1
        try clear hfz18_0
        try clear hfz18_1
        try clear hfz18_2
        try clear hfz18_3
        try clear hfz18_4
        try clear hfz18_5
        try clear hfz18_6
        try clear hfz19_0
        try clear hfz19_1
        try clear hfz24_0
        try clear hfz24_1
        try clear hfz24_2
        try clear hfz24_3
        try clear hfz24_4
        try clear hfz24_5
        try clear hfz24_6
        try clear hfz25_0
        try clear hfz25_1
        try clear hfz30_0
        try clear hfz30_1
        try clear hfz30_2
        try clear hfz30_3
        try clear hfz30_4
        try clear hfz30_5
        try clear hfz30_6
        try clear hfz31_0
        try clear hfz31_1
        try clear hfz39_0
        try clear hfz39_1
        try clear hfz39_2
        try clear hfz39_3
        try clear hfz39_4
        try clear hfz39_5
        try clear hfz39_6
        try clear hfz43_0
        try clear hfz43_1
        try clear hfz47_0
        try clear hfz47_1
        try clear hfz47_2
        try clear hfz47_3
        try clear hfz47_4
        try clear hfz47_5
        try clear hfz47_6
        try clear hfz6_0
        try clear hfz6_1
        try clear hfz6_2
        try clear hfz6_3
        try clear hfz6_4
        try clear hfz6_5
        try clear hfz6_6
        try clear p2
        obtain ⟨kq, x1000_33, x1001_33, x162005_33, HA, HJ33, BK160, BK161, HI0, HK, HB⟩ := hcut
        cases kq with
        | zero => exact absurd HA.out (by simp [format_reader_spec.j1])
        | succ kj33 =>
         have H := HA.out
         clear HA
         simp only [format_reader_spec.j1] at H
         have HC48 := Aside0.mk H
         clear H
         go_upto_region 16 with (fail)
         go_cut [50] (fun v50 wc => ∃ (kq : Nat) (x50_47 : Bool), v50 = .bool x50_47 ∧ Aside0 (format_reader_spec.j2 kq x50_47 x1000_33 x1001_33 x162000_1 x162001_1 x162002_1 x162003_1 t165 x162005_33 0 = some (r1, r2, r3, r4, r5, r6, r7, r8, r9, r10)) ∧ Aside0 (kq ≤ kj33) ∧ Aside0 (wc.heap[gb160]? = some (.cells #[.bool false, .bool false, .bool false, .bool false, .int .i64 0, .int .i64 0, .int .u8 0] 54 (0, 0))) ∧ Aside0 (wc.heap[gb161]? = some (.cells #[.bool x162000_1, .bool x162001_1, .bool x162002_1, .bool x162003_1, .int .i64 t165, .int .i64 x162005_33, .int .u8 0] 54 (0, 0))) ∧ Aside0 (IsS45 w0 wc g x1000_33 x1001_33) ∧ Aside0 (KeepBut w wc g none) ∧ Aside0 (Below w0.heap.size w0 wc))
         case first =>
          have H := HC48.out
          clear HC48
          by_cases c49 : t165 > 1000
          ·rw [if_pos c49] at H
           have c49b0 : decide (1000 < t165) = true := decide_eq_true c49
           clear c49
           (first | rw [c49b0] | (simp only [i64_w, i32_w]; rw [c49b0]) | skip)
           have H' := Aside0.mk H
           clear H
           have hnb50 := NB161_160.out
           have hnc50 := NB160_161.out
           have hnb51 := NB161_0.out
           have hnc51 := NB0_161.out
           have hcz52_0 : wc.cell? ⟨gb161, 0, none⟩ = some (.bool x162000_1) := (blk_cell BK161.out 0).trans rfl
           have hcz52_1 : wc.cell? ⟨gb161, 1, none⟩ = some (.bool x162001_1) := (blk_cell BK161.out 1).trans rfl
           have hcz52_2 : wc.cell? ⟨gb161, 2, none⟩ = some (.bool x162002_1) := (blk_cell BK161.out 2).trans rfl
           have hcz52_3 : wc.cell? ⟨gb161, 3, none⟩ = some (.bool x162003_1) := (blk_cell BK161.out 3).trans rfl
           have hcz52_4 : wc.cell? ⟨gb161, 4, none⟩ = some (.int .i64 t165) := (blk_cell BK161.out 4).trans rfl
           have hcz52_5 : wc.cell? ⟨gb161, 5, none⟩ = some (.int .i64 x162005_33) := (blk_cell BK161.out 5).trans rfl
           have hcz52_6 : wc.cell? ⟨gb161, 6, none⟩ = some (.int .u8 0) := (blk_cell BK161.out 6).trans rfl
           have hfz52_0 := blk_frozen BK161.out 0
           have hfz52_1 := blk_frozen BK161.out 1
           have hfz52_2 := blk_frozen BK161.out 2
           have hfz52_3 := blk_frozen BK161.out 3
           have hfz52_4 := blk_frozen BK161.out 4
           have hfz52_5 := blk_frozen BK161.out 5
           have hfz52_6 := blk_frozen BK161.out 6
           go_wp2
           go_meet
           case rel => exact ⟨_, (true), (by first | rfl | (simp; done) | (simp [*]; done) | (simp; unfold wrap64; omega)), H', ⟨by have := HK1.out; have := HJ33.out; first | omega | exact Nat.le_refl _⟩, ⟨by (with_reducible repeat (first | refine blk_drewN ?_ _ | refine blk_drew ?_ | refine blk_alloc ?_ _)); exact BK160.out⟩, ⟨by (with_reducible repeat (first | refine blk_drewN ?_ _ | refine blk_drew ?_ | refine blk_alloc ?_ _)); exact BK161.out⟩, ⟨by repeat (first | (with_reducible first | exact HI0.out | apply IsS45.alloc | apply IsS45.drewN | apply IsS45.drew | apply IsS45.set_0 | apply IsS45.set_1 | apply IsS45.far (hne := NB0_160.out) | apply IsS45.far (hne := NB0_161.out)) | exact HI0.out)⟩, ⟨by repeat (first | (with_reducible first | exact HK.out | apply KeepBut.set_ | apply keep_drewN | apply keep_drew | apply keep_alloc | refine keep_far ?_ GW160.out _ | refine keep_far ?_ GW161.out _) | exact HK.out)⟩, ⟨by repeat (first | (with_reducible first | exact HB.out | apply below_alloc | apply pw_below_drewN | apply below_drew1 | refine below_set ?_ (IsS45.ge HI0.out) | refine below_set ?_ GE160.out | refine below_set ?_ GE161.out) | exact HB.out)⟩⟩
          ·rw [if_neg c49] at H
           have c49b0 : decide (1000 < t165) = false := decide_eq_false c49
           clear c49
           (first | rw [c49b0] | (simp only [i64_w, i32_w]; rw [c49b0]) | skip)
           have H' := Aside0.mk H
           clear H
           have hnb53 := NB161_160.out
           have hnc53 := NB160_161.out
           have hnb54 := NB161_0.out
           have hnc54 := NB0_161.out
           have hcz55_0 : wc.cell? ⟨gb161, 0, none⟩ = some (.bool x162000_1) := (blk_cell BK161.out 0).trans rfl
           have hcz55_1 : wc.cell? ⟨gb161, 1, none⟩ = some (.bool x162001_1) := (blk_cell BK161.out 1).trans rfl
           have hcz55_2 : wc.cell? ⟨gb161, 2, none⟩ = some (.bool x162002_1) := (blk_cell BK161.out 2).trans rfl
           have hcz55_3 : wc.cell? ⟨gb161, 3, none⟩ = some (.bool x162003_1) := (blk_cell BK161.out 3).trans rfl
           have hcz55_4 : wc.cell? ⟨gb161, 4, none⟩ = some (.int .i64 t165) := (blk_cell BK161.out 4).trans rfl
           have hcz55_5 : wc.cell? ⟨gb161, 5, none⟩ = some (.int .i64 x162005_33) := (blk_cell BK161.out 5).trans rfl
           have hcz55_6 : wc.cell? ⟨gb161, 6, none⟩ = some (.int .u8 0) := (blk_cell BK161.out 6).trans rfl
           have hfz55_0 := blk_frozen BK161.out 0
           have hfz55_1 := blk_frozen BK161.out 1
           have hfz55_2 := blk_frozen BK161.out 2
           have hfz55_3 := blk_frozen BK161.out 3
           have hfz55_4 := blk_frozen BK161.out 4
           have hfz55_5 := blk_frozen BK161.out 5
           have hfz55_6 := blk_frozen BK161.out 6
           go_wp2
           go_meet
           case rel => exact ⟨_, (decide (x162005_33 > 1000)), (by first | rfl | (simp; done) | (simp [*]; done) | (simp; unfold wrap64; omega)), H', ⟨by have := HK1.out; have := HJ33.out; first | omega | exact Nat.le_refl _⟩, ⟨by (with_reducible repeat (first | refine blk_drewN ?_ _ | refine blk_drew ?_ | refine blk_alloc ?_ _)); exact BK160.out⟩, ⟨by (with_reducible repeat (first | refine blk_drewN ?_ _ | refine blk_drew ?_ | refine blk_alloc ?_ _)); exact BK161.out⟩, ⟨by repeat (first | (with_reducible first | exact HI0.out | apply IsS45.alloc | apply IsS45.drewN | apply IsS45.drew | apply IsS45.set_0 | apply IsS45.set_1 | apply IsS45.far (hne := NB0_160.out) | apply IsS45.far (hne := NB0_161.out)) | exact HI0.out)⟩, ⟨by repeat (first | (with_reducible first | exact HK.out | apply KeepBut.set_ | apply keep_drewN | apply keep_drew | apply keep_alloc | refine keep_far ?_ GW160.out _ | refine keep_far ?_ GW161.out _) | exact HK.out)⟩, ⟨by repeat (first | (with_reducible first | exact HB.out | apply below_alloc | apply pw_below_drewN | apply below_drew1 | refine below_set ?_ (IsS45.ge HI0.out) | refine below_set ?_ GE160.out | refine below_set ?_ GE161.out) | exact HB.out)⟩⟩
         case rest =>
          clear HC48
          try clear c1
          try clear c2
          try clear p2
          try clear c3
          try clear c4
          try clear c5
          try clear p6
          try clear c8
          try clear c8b0
          try clear c8b1
          try clear c10
          try clear c11
          try clear c14
          try clear c14b0
          try clear c14b1
          try clear c16
          try clear c17
          try clear c19
          try clear c20
          try clear c20b0
          try clear c20b1
          try clear c22
          try clear c23
          try clear c26
          try clear c26b0
          try clear c26b1
          try clear c28
          try clear c29
          try clear c37
          try clear c38
          try clear c41
          try clear c41b0
          try clear c41b1
          try clear c45
          try clear c46
          try clear c49
          try clear c49b0
          try clear c50
          try clear c51
          try clear c53
          try clear c54
          try clear hcz12_0
          try clear hcz12_1
          try clear hcz12_2
          try clear hcz12_3
          try clear hcz12_4
          try clear hcz12_5
          try clear hcz12_6
          try clear hcz13_0
          try clear hcz13_1
          try clear hcz18_0
          try clear hcz18_1
          try clear hcz18_2
          try clear hcz18_3
          try clear hcz18_4
          try clear hcz18_5
          try clear hcz18_6
          try clear hcz19_0
          try clear hcz19_1
          try clear hcz24_0
          try clear hcz24_1
          try clear hcz24_2
          try clear hcz24_3
          try clear hcz24_4
          try clear hcz24_5
          try clear hcz24_6
          try clear hcz25_0
          try clear hcz25_1
          try clear hcz30_0
          try clear hcz30_1
          try clear hcz30_2
          try clear hcz30_3
          try clear hcz30_4
          try clear hcz30_5
          try clear hcz30_6
          try clear hcz31_0
          try clear hcz31_1
          try clear hcz39_0
          try clear hcz39_1
          try clear hcz39_2
          try clear hcz39_3
          try clear hcz39_4
          try clear hcz39_5
          try clear hcz39_6
          try clear hcz43_0
          try clear hcz43_1
          try clear hcz47_0
          try clear hcz47_1
          try clear hcz47_2
          try clear hcz47_3
          try clear hcz47_4
          try clear hcz47_5
          try clear hcz47_6
          try clear hcz52_0
          try clear hcz52_1
          try clear hcz52_2
          try clear hcz52_3
          try clear hcz52_4
          try clear hcz52_5
          try clear hcz52_6
          try clear hcz55_0
          try clear hcz55_1
          try clear hcz55_2
          try clear hcz55_3
          try clear hcz55_4
          try clear hcz55_5
          try clear hcz55_6
          try clear hcz6_0
          try clear hcz6_1
          try clear hcz6_2
          try clear hcz6_3
          try clear hcz6_4
          try clear hcz6_5
          try clear hcz6_6
          try clear hfz12_0
          try clear hfz12_1
          try clear hfz12_2
          try clear hfz12_3
          try clear hfz12_4
          try clear hfz12_5
          try clear hfz12_6
          try clear hfz13_0
          try clear hfz13_1
          try clear hfz18_0
          try clear hfz18_1
          try clear hfz18_2
          try clear hfz18_3
          try clear hfz18_4
          try clear hfz18_5
          try clear hfz18_6
          try clear hfz19_0
          try clear hfz19_1
          try clear hfz24_0
          try clear hfz24_1
          try clear hfz24_2
          try clear hfz24_3
          try clear hfz24_4
          try clear hfz24_5
          try clear hfz24_6
          try clear hfz25_0
          try clear hfz25_1
          try clear hfz30_0
          try clear hfz30_1
          try clear hfz30_2
          try clear hfz30_3
          try clear hfz30_4
          try clear hfz30_5
          try clear hfz30_6
          try clear hfz31_0
          try clear hfz31_1
          try clear hfz39_0
          try clear hfz39_1
          try clear hfz39_2
          try clear hfz39_3
          try clear hfz39_4
          try clear hfz39_5
          try clear hfz39_6
          try clear hfz43_0
          try clear hfz43_1
          try clear hfz47_0
          try clear hfz47_1
          try clear hfz47_2
          try clear hfz47_3
          try clear hfz47_4
          try clear hfz47_5
          try clear hfz47_6
          try clear hfz52_0
          try clear hfz52_1
          try clear hfz52_2
          try clear hfz52_3
          try clear hfz52_4
          try clear hfz52_5
          try clear hfz52_6
          try clear hfz55_0
          try clear hfz55_1
          try clear hfz55_2
          try clear hfz55_3
          try clear hfz55_4
          try clear hfz55_5
          try clear hfz55_6
          try clear hfz6_0
          try clear hfz6_1
          try clear hfz6_2
          try clear hfz6_3
          try clear hfz6_4
          try clear hfz6_5
          try clear hfz6_6
          try clear p2
          try clear p6
          obtain ⟨kq, x50_47, rfl, HA, HJ47, BK160, BK161, HI0, HK, HB⟩ := hcut
          cases kq with
          | zero => exact absurd HA.out (by simp [format_reader_spec.j2])
          | succ kj47 =>
           have H := HA.out
           clear HA
           simp only [format_reader_spec.j2] at H
           by_cases c56 : x50_47 = true
           ·subst c56
            have H1 : (some (x162000_1, x162001_1, x162002_1, x162003_1, t165, x162005_33, 0, 12, x1000_33, x1001_33)) = some (r1, r2, r3, r4, r5, r6, r7, r8, r9, r10) := by rw [if_pos rfl] at H; exact H
            clear H
            have H := H1
            clear H1
            simp only [Option.some.injEq, Prod.mk.injEq] at H
            obtain ⟨rfl, rfl, rfl, rfl, rfl, rfl, rfl, rfl, rfl, rfl⟩ := H
            have hnb57 := NB161_160.out
            have hnc57 := NB160_161.out
            have hnb58 := NB161_0.out
            have hnc58 := NB0_161.out
            have hcz59_0 : wc.cell? ⟨gb161, 0, none⟩ = some (.bool x162000_1) := (blk_cell BK161.out 0).trans rfl
            have hcz59_1 : wc.cell? ⟨gb161, 1, none⟩ = some (.bool x162001_1) := (blk_cell BK161.out 1).trans rfl
            have hcz59_2 : wc.cell? ⟨gb161, 2, none⟩ = some (.bool x162002_1) := (blk_cell BK161.out 2).trans rfl
            have hcz59_3 : wc.cell? ⟨gb161, 3, none⟩ = some (.bool x162003_1) := (blk_cell BK161.out 3).trans rfl
            have hcz59_4 : wc.cell? ⟨gb161, 4, none⟩ = some (.int .i64 t165) := (blk_cell BK161.out 4).trans rfl
            have hcz59_5 : wc.cell? ⟨gb161, 5, none⟩ = some (.int .i64 x162005_33) := (blk_cell BK161.out 5).trans rfl
            have hcz59_6 : wc.cell? ⟨gb161, 6, none⟩ = some (.int .u8 0) := (blk_cell BK161.out 6).trans rfl
            have hfz59_0 := blk_frozen BK161.out 0
            have hfz59_1 := blk_frozen BK161.out 1
            have hfz59_2 := blk_frozen BK161.out 2
            have hfz59_3 := blk_frozen BK161.out 3
            have hfz59_4 := blk_frozen BK161.out 4
            have hfz59_5 := blk_frozen BK161.out 5
            have hfz59_6 := blk_frozen BK161.out 6
            have hnb60 := NB160_0.out
            have hnc60 := NB0_160.out
            have hcz61_0 : wc.cell? ⟨gb160, 0, none⟩ = some (.bool false) := (blk_cell BK160.out 0).trans rfl
            have hcz61_1 : wc.cell? ⟨gb160, 1, none⟩ = some (.bool false) := (blk_cell BK160.out 1).trans rfl
            have hcz61_2 : wc.cell? ⟨gb160, 2, none⟩ = some (.bool false) := (blk_cell BK160.out 2).trans rfl
            have hcz61_3 : wc.cell? ⟨gb160, 3, none⟩ = some (.bool false) := (blk_cell BK160.out 3).trans rfl
            have hcz61_4 : wc.cell? ⟨gb160, 4, none⟩ = some (.int .i64 0) := (blk_cell BK160.out 4).trans rfl
            have hcz61_5 : wc.cell? ⟨gb160, 5, none⟩ = some (.int .i64 0) := (blk_cell BK160.out 5).trans rfl
            have hcz61_6 : wc.cell? ⟨gb160, 6, none⟩ = some (.int .u8 0) := (blk_cell BK160.out 6).trans rfl
            have hfz61_0 := blk_frozen BK160.out 0
            have hfz61_1 := blk_frozen BK160.out 1
            have hfz61_2 := blk_frozen BK160.out 2
            have hfz61_3 := blk_frozen BK160.out 3
            have hfz61_4 := blk_frozen BK160.out 4
            have hfz61_5 := blk_frozen BK160.out 5
            have hfz61_6 := blk_frozen BK160.out 6
            go_wp2
            rw [Exit.noGoto_ret]
            refine bodyPost_ret (results_ct rfl _ _ gb160 54 #[.bool x162000_1, .bool x162001_1, .bool x162002_1, .bool x162003_1, .int .i64 t165, .int .i64 x162005_33, .int .u8 0] (0, 0) _ rfl (by (with_reducible repeat (first | refine blk_drewN ?_ _ | refine blk_drew ?_ | refine blk_alloc ?_ _)); refine blk_put (cs := #[.bool x162000_1, .bool x162001_1, .bool x162002_1, .bool x162003_1, .int .i64 t165, .int .i64 x162005_33, .int .u8 0]) ?_ 6 _ rfl; (with_reducible repeat (first | refine blk_drewN ?_ _ | refine blk_drew ?_ | refine blk_alloc ?_ _)); refine blk_put (cs := #[.bool x162000_1, .bool x162001_1, .bool x162002_1, .bool x162003_1, .int .i64 t165, .int .i64 0, .int .u8 0]) ?_ 5 _ rfl; (with_reducible repeat (first | refine blk_drewN ?_ _ | refine blk_drew ?_ | refine blk_alloc ?_ _)); refine blk_put (cs := #[.bool x162000_1, .bool x162001_1, .bool x162002_1, .bool x162003_1, .int .i64 0, .int .i64 0, .int .u8 0]) ?_ 4 _ rfl; (with_reducible repeat (first | refine blk_drewN ?_ _ | refine blk_drew ?_ | refine blk_alloc ?_ _)); refine blk_put (cs := #[.bool x162000_1, .bool x162001_1, .bool x162002_1, .bool false, .int .i64 0, .int .i64 0, .int .u8 0]) ?_ 3 _ rfl; (with_reducible repeat (first | refine blk_drewN ?_ _ | refine blk_drew ?_ | refine blk_alloc ?_ _)); refine blk_put (cs := #[.bool x162000_1, .bool x162001_1, .bool false, .bool false, .int .i64 0, .int .i64 0, .int .u8 0]) ?_ 2 _ rfl; (with_reducible repeat (first | refine blk_drewN ?_ _ | refine blk_drew ?_ | refine blk_alloc ?_ _)); refine blk_put (cs := #[.bool x162000_1, .bool false, .bool false, .bool false, .int .i64 0, .int .i64 0, .int .u8 0]) ?_ 1 _ rfl; (with_reducible repeat (first | refine blk_drewN ?_ _ | refine blk_drew ?_ | refine blk_alloc ?_ _)); refine blk_put (cs := #[.bool false, .bool false, .bool false, .bool false, .int .i64 0, .int .i64 0, .int .u8 0]) ?_ 0 _ rfl; (with_reducible repeat (first | refine blk_drewN ?_ _ | refine blk_drew ?_ | refine blk_alloc ?_ _)); exact BK160.out) Tryd.underlying54 rfl (by kernel_rfl)) rfl ?_
            exact ⟨by first | rfl | (simp [errW_none, errW_some] <;> rfl) | (simp [errW_none, errW_some] <;> first | rfl | exact isEmpty_bne _) | (simp [*, errW_none, errW_some] <;> rfl), by repeat (first | (with_reducible first | exact HI0.out | apply IsS45.alloc | apply IsS45.drewN | apply IsS45.drew | apply IsS45.set_0 | apply IsS45.set_1 | apply IsS45.far (hne := NB0_160.out) | apply IsS45.far (hne := NB0_161.out)) | exact HI0.out), by repeat (first | (with_reducible first | exact HB.out | apply below_alloc | apply pw_below_drewN | apply below_drew1 | refine below_set ?_ (IsS45.ge HI0.out) | refine below_set ?_ GE160.out | refine below_set ?_ GE161.out) | exact HB.out), by repeat (first | (with_reducible first | exact HK.out | apply KeepBut.set_ | apply keep_drewN | apply keep_drew | apply keep_alloc | refine keep_far ?_ GW160.out _ | refine keep_far ?_ GW161.out _) | exact HK.out)⟩
           ·replace c56 := Bool.eq_false_iff.mpr c56
            subst c56
            have H1 : ((format_reader_next.f x1000_33 x1001_33).bind fun bt174 => (if bt174.1 = 0 then (some (x162000_1, x162001_1, x162002_1, x162003_1, t165, x162005_33, bt174.1, 16, bt174.2.1, bt174.2.2)) else ((strings_Contains.f (⟨#[100, 105, 120, 102, 115, 99, 37]⟩ : ByteArray) (strOfNums (([bt174.1] : List Int)))).bind fun t180 => (if t180 = true then (some (x162000_1, x162001_1, x162002_1, x162003_1, t165, x162005_33, bt174.1, 0, bt174.2.1, wrap64 (bt174.2.2 + 1))) else (some (x162000_1, x162001_1, x162002_1, x162003_1, t165, x162005_33, bt174.1, 16, bt174.2.1, bt174.2.2)))))) = some (r1, r2, r3, r4, r5, r6, r7, r8, r9, r10) := by rw [if_neg (show ¬ (false = true) by decide)] at H; exact H
            clear H
            have H := H1
            clear H1
            replace H := Option.bind_eq_some_iff.mp H
            obtain ⟨⟨t174, t175, t176⟩, A620, H⟩ := H
            replace H : (if t174 = 0 then (some (x162000_1, x162001_1, x162002_1, x162003_1, t165, x162005_33, t174, 16, t175, t176)) else ((strings_Contains.f (⟨#[100, 105, 120, 102, 115, 99, 37]⟩ : ByteArray) (strOfNums (([t174] : List Int)))).bind fun t180 => (if t180 = true then (some (x162000_1, x162001_1, x162002_1, x162003_1, t165, x162005_33, t174, 0, t175, wrap64 (t176 + 1))) else (some (x162000_1, x162001_1, x162002_1, x162003_1, t165, x162005_33, t174, 16, t175, t176))))) = some (r1, r2, r3, r4, r5, r6, r7, r8, r9, r10) := H
            have A62 := Aside0.mk A620
            clear A620
            by_cases c63 : t174 = 0
            ·rw [if_pos c63] at H
             have c63b0 : (t174 == 0) = true := beq_iff_eq.mpr c63
             have c63b1 : (t174 != 0) = false := bne_eq_false_iff_eq.mpr c63
             clear c63
             simp only [Option.some.injEq, Prod.mk.injEq] at H
             obtain ⟨rfl, rfl, rfl, rfl, rfl, rfl, rfl, rfl, rfl, rfl⟩ := H
             go_wp2_with (first | ((with_reducible refine gate_callee (f := 17) rfl ?_); refine goesL_ (some 53) rfl rfl Tryd.func17 (by kernel_rfl) rfl #[.pointer (some ⟨g, 0, none⟩)] rfl (by (try simp only [List.map_toArray, List.map_cons, List.map_nil]); first | done | rfl | (simp only [List.length_drop, List.length_take]; rfl)) ?_; (with_reducible refine (format_reader_next.calls g x1000_33 x1001_33 t174 t175 t176 w0 _ ?side1 ?side2 ?side3 A62.out).mono ?_); (case side1 => repeat (first | (with_reducible first | exact HI0.out | apply IsS45.alloc | apply IsS45.drewN | apply IsS45.drew | apply IsS45.set_0 | apply IsS45.set_1 | apply IsS45.far (hne := NB0_160.out) | apply IsS45.far (hne := NB0_161.out)) | exact HI0.out)); (case side2 => repeat (first | (with_reducible first | exact HB.out | apply below_alloc | apply pw_below_drewN | apply below_drew1 | refine below_set ?_ (IsS45.ge HI0.out) | refine below_set ?_ GE160.out | refine below_set ?_ GE161.out) | exact HB.out)); (case side3 => exact hT); rintro e w64 ⟨rfl, hi, hb, hk⟩; refine ⟨_, rfl, ?_⟩; have n0_ := Aside0.mk (KeepBut.blk hk (g' := gb160) (o := .cells #[.bool false, .bool false, .bool false, .bool false, .int .i64 0, .int .i64 0, .int .u8 0] 54 (0, 0)) (by (with_reducible repeat (first | refine blk_drewN ?_ _ | refine blk_drew ?_ | refine blk_alloc ?_ _)); exact BK160.out) NB160_0.out (by simp)); have n1_ := Aside0.mk (KeepBut.blk hk (g' := gb161) (o := .cells #[.bool x162000_1, .bool x162001_1, .bool x162002_1, .bool x162003_1, .int .i64 t165, .int .i64 x162005_33, .int .u8 0] 54 (0, 0)) (by (with_reducible repeat (first | refine blk_drewN ?_ _ | refine blk_drew ?_ | refine blk_alloc ?_ _)); exact BK161.out) NB161_0.out (by simp)); have n2_ := Aside0.mk (KeepBut.trans (by repeat (first | (with_reducible first | exact HK.out | apply KeepBut.set_ | apply keep_drewN | apply keep_drew | apply keep_alloc | refine keep_far ?_ GW160.out _ | refine keep_far ?_ GW161.out _) | exact HK.out)) hk (.inl rfl)); have n3_ := Aside0.mk (hb); have n4_ := Aside0.mk (hi); clear BK160; clear BK161; clear HK; clear HB; clear HI0; have BK160 := n0_; have BK161 := n1_; have HK := n2_; have HB := n3_; have HI0 := n4_; clear n0_ n1_ n2_ n3_ n4_; (try clear hb); (try clear hb2); (try clear hk); (try clear hi); have hnb65 := NB161_160.out; have hnc65 := NB160_161.out; have hnb66 := NB161_0.out; have hnc66 := NB0_161.out; have hcz67_0 : w64.cell? ⟨gb161, 0, none⟩ = some (.bool x162000_1) := (blk_cell BK161.out 0).trans rfl; have hcz67_1 : w64.cell? ⟨gb161, 1, none⟩ = some (.bool x162001_1) := (blk_cell BK161.out 1).trans rfl; have hcz67_2 : w64.cell? ⟨gb161, 2, none⟩ = some (.bool x162002_1) := (blk_cell BK161.out 2).trans rfl; have hcz67_3 : w64.cell? ⟨gb161, 3, none⟩ = some (.bool x162003_1) := (blk_cell BK161.out 3).trans rfl; have hcz67_4 : w64.cell? ⟨gb161, 4, none⟩ = some (.int .i64 t165) := (blk_cell BK161.out 4).trans rfl; have hcz67_5 : w64.cell? ⟨gb161, 5, none⟩ = some (.int .i64 x162005_33) := (blk_cell BK161.out 5).trans rfl; have hcz67_6 : w64.cell? ⟨gb161, 6, none⟩ = some (.int .u8 0) := (blk_cell BK161.out 6).trans rfl; have hfz67_0 := blk_frozen BK161.out 0; have hfz67_1 := blk_frozen BK161.out 1; have hfz67_2 := blk_frozen BK161.out 2; have hfz67_3 := blk_frozen BK161.out 3; have hfz67_4 := blk_frozen BK161.out 4; have hfz67_5 := blk_frozen BK161.out 5; have hfz67_6 := blk_frozen BK161.out 6; have hnb68 := NB160_0.out; have hnc68 := NB0_160.out; have hcz69_0 : w64.cell? ⟨gb160, 0, none⟩ = some (.bool false) := (blk_cell BK160.out 0).trans rfl; have hcz69_1 : w64.cell? ⟨gb160, 1, none⟩ = some (.bool false) := (blk_cell BK160.out 1).trans rfl; have hcz69_2 : w64.cell? ⟨gb160, 2, none⟩ = some (.bool false) := (blk_cell BK160.out 2).trans rfl; have hcz69_3 : w64.cell? ⟨gb160, 3, none⟩ = some (.bool false) := (blk_cell BK160.out 3).trans rfl; have hcz69_4 : w64.cell? ⟨gb160, 4, none⟩ = some (.int .i64 0) := (blk_cell BK160.out 4).trans rfl; have hcz69_5 : w64.cell? ⟨gb160, 5, none⟩ = some (.int .i64 0) := (blk_cell BK160.out 5).trans rfl; have hcz69_6 : w64.cell? ⟨gb160, 6, none⟩ = some (.int .u8 0) := (blk_cell BK160.out 6).trans rfl; have hfz69_0 := blk_frozen BK160.out 0; have hfz69_1 := blk_frozen BK160.out 1; have hfz69_2 := blk_frozen BK160.out 2; have hfz69_3 := blk_frozen BK160.out 3; have hfz69_4 := blk_frozen BK160.out 4; have hfz69_5 := blk_frozen BK160.out 5; have hfz69_6 := blk_frozen BK160.out 6))
             rw [Exit.noGoto_ret]
             refine bodyPost_ret (results_ct rfl _ _ gb160 54 #[.bool x162000_1, .bool x162001_1, .bool x162002_1, .bool x162003_1, .int .i64 t165, .int .i64 x162005_33, .int .u8 t174] (0, 0) _ rfl (by (with_reducible repeat (first | refine blk_drewN ?_ _ | refine blk_drew ?_ | refine blk_alloc ?_ _)); refine blk_put (cs := #[.bool x162000_1, .bool x162001_1, .bool x162002_1, .bool x162003_1, .int .i64 t165, .int .i64 x162005_33, .int .u8 0]) ?_ 6 _ rfl; (with_reducible repeat (first | refine blk_drewN ?_ _ | refine blk_drew ?_ | refine blk_alloc ?_ _)); refine blk_put (cs := #[.bool x162000_1, .bool x162001_1, .bool x162002_1, .bool x162003_1, .int .i64 t165, .int .i64 0, .int .u8 0]) ?_ 5 _ rfl; (with_reducible repeat (first | refine blk_drewN ?_ _ | refine blk_drew ?_ | refine blk_alloc ?_ _)); refine blk_put (cs := #[.bool x162000_1, .bool x162001_1, .bool x162002_1, .bool x162003_1, .int .i64 0, .int .i64 0, .int .u8 0]) ?_ 4 _ rfl; (with_reducible repeat (first | refine blk_drewN ?_ _ | refine blk_drew ?_ | refine blk_alloc ?_ _)); refine blk_put (cs := #[.bool x162000_1, .bool x162001_1, .bool x162002_1, .bool false, .int .i64 0, .int .i64 0, .int .u8 0]) ?_ 3 _ rfl; (with_reducible repeat (first | refine blk_drewN ?_ _ | refine blk_drew ?_ | refine blk_alloc ?_ _)); refine blk_put (cs := #[.bool x162000_1, .bool x162001_1, .bool false, .bool false, .int .i64 0, .int .i64 0, .int .u8 0]) ?_ 2 _ rfl; (with_reducible repeat (first | refine blk_drewN ?_ _ | refine blk_drew ?_ | refine blk_alloc ?_ _)); refine blk_put (cs := #[.bool x162000_1, .bool false, .bool false, .bool false, .int .i64 0, .int .i64 0, .int .u8 0]) ?_ 1 _ rfl; (with_reducible repeat (first | refine blk_drewN ?_ _ | refine blk_drew ?_ | refine blk_alloc ?_ _)); refine blk_put (cs := #[.bool false, .bool false, .bool false, .bool false, .int .i64 0, .int .i64 0, .int .u8 0]) ?_ 0 _ rfl; (with_reducible repeat (first | refine blk_drewN ?_ _ | refine blk_drew ?_ | refine blk_alloc ?_ _)); refine blk_far ?_ NB160_161.out _; (with_reducible repeat (first | refine blk_drewN ?_ _ | refine blk_drew ?_ | refine blk_alloc ?_ _)); exact BK160.out) Tryd.underlying54 rfl (by kernel_rfl)) rfl ?_
             exact ⟨by first | rfl | (simp [errW_none, errW_some] <;> rfl) | (simp [errW_none, errW_some] <;> first | rfl | exact isEmpty_bne _) | (simp [*, errW_none, errW_some] <;> rfl), by repeat (first | (with_reducible first | exact HI0.out | apply IsS45.alloc | apply IsS45.drewN | apply IsS45.drew | apply IsS45.set_0 | apply IsS45.set_1 | apply IsS45.far (hne := NB0_160.out) | apply IsS45.far (hne := NB0_161.out)) | exact HI0.out), by repeat (first | (with_reducible first | exact HB.out | apply below_alloc | apply pw_below_drewN | apply below_drew1 | refine below_set ?_ (IsS45.ge HI0.out) | refine below_set ?_ GE160.out | refine below_set ?_ GE161.out) | exact HB.out), by repeat (first | (with_reducible first | exact HK.out | apply KeepBut.set_ | apply keep_drewN | apply keep_drew | apply keep_alloc | refine keep_far ?_ GW160.out _ | refine keep_far ?_ GW161.out _) | exact HK.out)⟩
            ·rw [if_neg c63] at H
             have c63b0 : (t174 == 0) = false := beq_eq_false_iff_ne.mpr c63
             have c63b1 : (t174 != 0) = true := bne_iff_ne.mpr c63
             obtain ⟨y177, hy177⟩ : ∃ y_ : List Int, y_ = (([t174] : List Int)) := ⟨_, rfl⟩
             replace H : ((strings_Contains.f (⟨#[100, 105, 120, 102, 115, 99, 37]⟩ : ByteArray) (strOfNums y177)).bind fun t180 => (if t180 = true then (some (x162000_1, x162001_1, x162002_1, x162003_1, t165, x162005_33, t174, 0, t175, wrap64 (t176 + 1))) else (some (x162000_1, x162001_1, x162002_1, x162003_1, t165, x162005_33, t174, 16, t175, t176)))) = some (r1, r2, r3, r4, r5, r6, r7, r8, r9, r10) := by first | (rw [hy177]; with_reducible exact H) | (have H2_ := (Option.bind_some _ _).symm.trans H; rw [hy177]; with_reducible exact H2_) | (have H2_ := (Option.bind_some _ _).symm.trans H; with_reducible exact H2_) | with_reducible exact H | (rw [hy177]; exact H) | exact H
             have Ny177 := Aside0.mk hy177
             clear hy177
             replace H := Option.bind_eq_some_iff.mp H
             obtain ⟨t180, A700, H⟩ := H
             replace H : (if t180 = true then (some (x162000_1, x162001_1, x162002_1, x162003_1, t165, x162005_33, t174, 0, t175, wrap64 (t176 + 1))) else (some (x162000_1, x162001_1, x162002_1, x162003_1, t165, x162005_33, t174, 16, t175, t176))) = some (r1, r2, r3, r4, r5, r6, r7, r8, r9, r10) := H
             have A70 := Aside0.mk A700
             clear A700
             by_cases c71 : t180 = true
             ·subst c71
              have H1 : (some (x162000_1, x162001_1, x162002_1, x162003_1, t165, x162005_33, t174, 0, t175, wrap64 (t176 + 1))) = some (r1, r2, r3, r4, r5, r6, r7, r8, r9, r10) := by rw [if_pos rfl] at H; exact H
              clear H
              have H := H1
              clear H1
              simp only [Option.some.injEq, Prod.mk.injEq] at H
              obtain ⟨rfl, rfl, rfl, rfl, rfl, rfl, rfl, rfl, rfl, rfl⟩ := H
              go_wp2_with (first | ((with_reducible refine gate_callee (f := 17) rfl ?_); refine goesL_ (some 53) rfl rfl Tryd.func17 (by kernel_rfl) rfl #[.pointer (some ⟨g, 0, none⟩)] rfl (by (try simp only [List.map_toArray, List.map_cons, List.map_nil]); first | done | rfl | (simp only [List.length_drop, List.length_take]; rfl)) ?_; (with_reducible refine (format_reader_next.calls g x1000_33 x1001_33 t174 t175 t176 w0 _ ?side1 ?side2 ?side3 A62.out).mono ?_); (case side1 => repeat (first | (with_reducible first | exact HI0.out | apply IsS45.alloc | apply IsS45.drewN | apply IsS45.drew | apply IsS45.set_0 | apply IsS45.set_1 | apply IsS45.far (hne := NB0_160.out) | apply IsS45.far (hne := NB0_161.out)) | exact HI0.out)); (case side2 => repeat (first | (with_reducible first | exact HB.out | apply below_alloc | apply pw_below_drewN | apply below_drew1 | refine below_set ?_ (IsS45.ge HI0.out) | refine below_set ?_ GE160.out | refine below_set ?_ GE161.out) | exact HB.out)); (case side3 => exact hT); rintro e w72 ⟨rfl, hi, hb, hk⟩; refine ⟨_, rfl, ?_⟩; have n0_ := Aside0.mk (KeepBut.blk hk (g' := gb160) (o := .cells #[.bool false, .bool false, .bool false, .bool false, .int .i64 0, .int .i64 0, .int .u8 0] 54 (0, 0)) (by (with_reducible repeat (first | refine blk_drewN ?_ _ | refine blk_drew ?_ | refine blk_alloc ?_ _)); exact BK160.out) NB160_0.out (by simp)); have n1_ := Aside0.mk (KeepBut.blk hk (g' := gb161) (o := .cells #[.bool x162000_1, .bool x162001_1, .bool x162002_1, .bool x162003_1, .int .i64 t165, .int .i64 x162005_33, .int .u8 0] 54 (0, 0)) (by (with_reducible repeat (first | refine blk_drewN ?_ _ | refine blk_drew ?_ | refine blk_alloc ?_ _)); exact BK161.out) NB161_0.out (by simp)); have n2_ := Aside0.mk (KeepBut.trans (by repeat (first | (with_reducible first | exact HK.out | apply KeepBut.set_ | apply keep_drewN | apply keep_drew | apply keep_alloc | refine keep_far ?_ GW160.out _ | refine keep_far ?_ GW161.out _) | exact HK.out)) hk (.inl rfl)); have n3_ := Aside0.mk (hb); have n4_ := Aside0.mk (hi); clear BK160; clear BK161; clear HK; clear HB; clear HI0; have BK160 := n0_; have BK161 := n1_; have HK := n2_; have HB := n3_; have HI0 := n4_; clear n0_ n1_ n2_ n3_ n4_; (try clear hb); (try clear hb2); (try clear hk); (try clear hi); have hnb73 := NB161_160.out; have hnc73 := NB160_161.out; have hnb74 := NB161_0.out; have hnc74 := NB0_161.out; have hcz75_0 : w72.cell? ⟨gb161, 0, none⟩ = some (.bool x162000_1) := (blk_cell BK161.out 0).trans rfl; have hcz75_1 : w72.cell? ⟨gb161, 1, none⟩ = some (.bool x162001_1) := (blk_cell BK161.out 1).trans rfl; have hcz75_2 : w72.cell? ⟨gb161, 2, none⟩ = some (.bool x162002_1) := (blk_cell BK161.out 2).trans rfl; have hcz75_3 : w72.cell? ⟨gb161, 3, none⟩ = some (.bool x162003_1) := (blk_cell BK161.out 3).trans rfl; have hcz75_4 : w72.cell? ⟨gb161, 4, none⟩ = some (.int .i64 t165) := (blk_cell BK161.out 4).trans rfl; have hcz75_5 : w72.cell? ⟨gb161, 5, none⟩ = some (.int .i64 x162005_33) := (blk_cell BK161.out 5).trans rfl; have hcz75_6 : w72.cell? ⟨gb161, 6, none⟩ = some (.int .u8 0) := (blk_cell BK161.out 6).trans rfl; have hfz75_0 := blk_frozen BK161.out 0; have hfz75_1 := blk_frozen BK161.out 1; have hfz75_2 := blk_frozen BK161.out 2; have hfz75_3 := blk_frozen BK161.out 3; have hfz75_4 := blk_frozen BK161.out 4; have hfz75_5 := blk_frozen BK161.out 5; have hfz75_6 := blk_frozen BK161.out 6) | ((with_reducible refine gate_dst (N := 61) rfl ?_); (try (refine gate_guard (by rfl) ?_; dsimp only)); refine Kd.R_lit (Kd.int .u8) _ 5 ?hg (N := 61) ?hd (xs := ([t174] : List Int)) (inner := [.int .u8 t174]) (ok := fun _ => True) (okp := fun _ => True) ?hr ?hp (fun _ hk => hk) trivial (Below.refl _ _) (Nat.le_refl _) (by simp) ?_; (case hd => rfl); (case hg => rfl); (case hr => first | (go_simp; done) | (go_simp; rfl)); (case hp => exact (Reps.one (show Kd.M (Kd.int .u8) _ _ _ t174 [.int .u8 t174] from rfl) (Reps.none _ _))); intro v178 w76 ho77 hb hg_ hnew_; clear hg_ hnew_; (first | rw [← Ny177.out] at ho77 | (simp only [Int.reduceToNat] at ho77; rw [← Ny177.out] at ho77)); have n0_ := Aside0.mk (Kd.R_lower ho77 (keep_size (w := w) (g := g) (row := none) (by repeat (first | (with_reducible first | exact HK.out | apply KeepBut.set_ | apply keep_drewN | apply keep_drew | apply keep_alloc | refine keep_far ?_ GW160.out _ | refine keep_far ?_ GW161.out _) | exact HK.out)))); have n1_ := Aside0.mk (blk_below (g := gb160) (o := .cells #[.bool false, .bool false, .bool false, .bool false, .int .i64 0, .int .i64 0, .int .u8 0] 54 (0, 0)) (by (with_reducible repeat (first | refine blk_drewN ?_ _ | refine blk_drew ?_ | refine blk_alloc ?_ _)); refine blk_far ?_ NB160_161.out _; (with_reducible repeat (first | refine blk_drewN ?_ _ | refine blk_drew ?_ | refine blk_alloc ?_ _)); exact BK160.out) hb); have n2_ := Aside0.mk (blk_below (g := gb161) (o := .cells #[.bool x162000_1, .bool x162001_1, .bool x162002_1, .bool x162003_1, .int .i64 t165, .int .i64 x162005_33, .int .u8 t174] 54 (0, 0)) (by (with_reducible repeat (first | refine blk_drewN ?_ _ | refine blk_drew ?_ | refine blk_alloc ?_ _)); refine blk_put (cs := #[.bool x162000_1, .bool x162001_1, .bool x162002_1, .bool x162003_1, .int .i64 t165, .int .i64 x162005_33, .int .u8 0]) ?_ 6 _ rfl; (with_reducible repeat (first | refine blk_drewN ?_ _ | refine blk_drew ?_ | refine blk_alloc ?_ _)); exact BK161.out) hb); have n3_ := Aside0.mk (IsS45.below (show IsS45 w0 (w72.setCell ⟨gb161, 6, none⟩ (.int .u8 t174)) g t175 t176 from by repeat (first | (with_reducible first | exact HI0.out | apply IsS45.alloc | apply IsS45.drewN | apply IsS45.drew | apply IsS45.set_0 | apply IsS45.set_1 | apply IsS45.far (hne := NB0_160.out) | apply IsS45.far (hne := NB0_161.out)) | exact HI0.out)) hb); have n4_ := Aside0.mk (KeepBut.trans (by repeat (first | (with_reducible first | exact HK.out | apply KeepBut.set_ | apply keep_drewN | apply keep_drew | apply keep_alloc | refine keep_far ?_ GW160.out _ | refine keep_far ?_ GW161.out _) | exact HK.out)) (KeepBut.of_below hb g none) (.inl rfl)); have n5_ := Aside0.mk (below_step (by repeat (first | (with_reducible first | exact HB.out | apply below_alloc | apply pw_below_drewN | apply below_drew1 | refine below_set ?_ (IsS45.ge HI0.out) | refine below_set ?_ GE160.out | refine below_set ?_ GE161.out) | exact HB.out)) hb); clear BK160; clear BK161; clear HI0; clear HK; clear HB; have HO179 := n0_; have BK160 := n1_; have BK161 := n2_; have HI0 := n3_; have HK := n4_; have HB := n5_; clear n0_ n1_ n2_ n3_ n4_ n5_; clear hb ho77; have hcv78 := own_string (P := Tryd.prog) Tryd.underlying36 Tryd.underlying5 Tryd.underlying9 (Kd.own_of_R HO179.out)) | (go_at_call 30; (with_reducible refine (strings_Contains.calls (⟨#[100, 105, 120, 102, 115, 99, 37]⟩ : ByteArray) (strOfNums y177) true _ ?side1 A70.out).mono ?_); (case side1 => exact TB.below hT (by repeat (first | (with_reducible first | exact HB.out | apply below_alloc | apply pw_below_drewN | apply below_drew1 | refine below_set ?_ (IsS45.ge HI0.out) | refine below_set ?_ GE160.out | refine below_set ?_ GE161.out) | exact HB.out))); rintro e w' ⟨rfl, ⟨nd, rfl⟩⟩; (try (rw [drewN_self w76]; generalize hq_ : World.drewN w76 _ = w76; have n0_ : Aside0 (Kd.R (Kd.int .u8) 5 w76 w.heap.size (fun _ => True) v178 y177) := ⟨by rw [← hq_]; exact (by (with_reducible repeat (first | apply Kd.R_alloc | apply Kd.R_drewN | apply Kd.R_drew)); exact HO179.out)⟩; have n1_ : Aside0 (w76.heap[gb160]? = some (.cells #[.bool false, .bool false, .bool false, .bool false, .int .i64 0, .int .i64 0, .int .u8 0] 54 (0, 0))) := ⟨by rw [← hq_]; exact (by (with_reducible repeat (first | refine blk_drewN ?_ _ | refine blk_drew ?_ | refine blk_alloc ?_ _)); exact BK160.out)⟩; have n2_ : Aside0 (w76.heap[gb161]? = some (.cells #[.bool x162000_1, .bool x162001_1, .bool x162002_1, .bool x162003_1, .int .i64 t165, .int .i64 x162005_33, .int .u8 t174] 54 (0, 0))) := ⟨by rw [← hq_]; exact (by (with_reducible repeat (first | refine blk_drewN ?_ _ | refine blk_drew ?_ | refine blk_alloc ?_ _)); exact BK161.out)⟩; have n3_ : Aside0 (IsS45 w0 w76 g t175 t176) := ⟨by rw [← hq_]; exact (by repeat (first | (with_reducible first | exact HI0.out | apply IsS45.alloc | apply IsS45.drewN | apply IsS45.drew | apply IsS45.set_0 | apply IsS45.set_1 | apply IsS45.far (hne := NB0_160.out) | apply IsS45.far (hne := NB0_161.out)) | exact HI0.out))⟩; have n4_ : Aside0 (KeepBut w w76 g none) := ⟨by rw [← hq_]; exact (by repeat (first | (with_reducible first | exact HK.out | apply KeepBut.set_ | apply keep_drewN | apply keep_drew | apply keep_alloc | refine keep_far ?_ GW160.out _ | refine keep_far ?_ GW161.out _) | exact HK.out))⟩; have n5_ : Aside0 (Below w0.heap.size w0 w76) := ⟨by rw [← hq_]; exact (by repeat (first | (with_reducible first | exact HB.out | apply below_alloc | apply pw_below_drewN | apply below_drew1 | refine below_set ?_ (IsS45.ge HI0.out) | refine below_set ?_ GE160.out | refine below_set ?_ GE161.out) | exact HB.out))⟩; clear HO179 BK160 BK161 HI0 HK HB hq_; have HO179 := n0_; have BK160 := n1_; have BK161 := n2_; have HI0 := n3_; have HK := n4_; have HB := n5_; clear n0_ n1_ n2_ n3_ n4_ n5_)); obtain ⟨HGz79, hgz79⟩ := HI0.out; have hcz79_0 := cellS45_0 HGz79; have hcz79_1 := cellS45_1 HGz79; have hfz79_0 := blk_frozen HGz79 0; have hfz79_1 := blk_frozen HGz79 1; clear HGz79 hgz79; have hcz80_0 : w76.cell? ⟨gb161, 0, none⟩ = some (.bool x162000_1) := (blk_cell BK161.out 0).trans rfl; have hcz80_1 : w76.cell? ⟨gb161, 1, none⟩ = some (.bool x162001_1) := (blk_cell BK161.out 1).trans rfl; have hcz80_2 : w76.cell? ⟨gb161, 2, none⟩ = some (.bool x162002_1) := (blk_cell BK161.out 2).trans rfl; have hcz80_3 : w76.cell? ⟨gb161, 3, none⟩ = some (.bool x162003_1) := (blk_cell BK161.out 3).trans rfl; have hcz80_4 : w76.cell? ⟨gb161, 4, none⟩ = some (.int .i64 t165) := (blk_cell BK161.out 4).trans rfl; have hcz80_5 : w76.cell? ⟨gb161, 5, none⟩ = some (.int .i64 x162005_33) := (blk_cell BK161.out 5).trans rfl; have hcz80_6 : w76.cell? ⟨gb161, 6, none⟩ = some (.int .u8 t174) := (blk_cell BK161.out 6).trans rfl; have hfz80_0 := blk_frozen BK161.out 0; have hfz80_1 := blk_frozen BK161.out 1; have hfz80_2 := blk_frozen BK161.out 2; have hfz80_3 := blk_frozen BK161.out 3; have hfz80_4 := blk_frozen BK161.out 4; have hfz80_5 := blk_frozen BK161.out 5; have hfz80_6 := blk_frozen BK161.out 6; have hnb81 := NB160_0.out; have hnc81 := NB0_160.out; have hcz82_0 : w76.cell? ⟨gb160, 0, none⟩ = some (.bool false) := (blk_cell BK160.out 0).trans rfl; have hcz82_1 : w76.cell? ⟨gb160, 1, none⟩ = some (.bool false) := (blk_cell BK160.out 1).trans rfl; have hcz82_2 : w76.cell? ⟨gb160, 2, none⟩ = some (.bool false) := (blk_cell BK160.out 2).trans rfl; have hcz82_3 : w76.cell? ⟨gb160, 3, none⟩ = some (.bool false) := (blk_cell BK160.out 3).trans rfl; have hcz82_4 : w76.cell? ⟨gb160, 4, none⟩ = some (.int .i64 0) := (blk_cell BK160.out 4).trans rfl; have hcz82_5 : w76.cell? ⟨gb160, 5, none⟩ = some (.int .i64 0) := (blk_cell BK160.out 5).trans rfl; have hcz82_6 : w76.cell? ⟨gb160, 6, none⟩ = some (.int .u8 0) := (blk_cell BK160.out 6).trans rfl; have hfz82_0 := blk_frozen BK160.out 0; have hfz82_1 := blk_frozen BK160.out 1; have hfz82_2 := blk_frozen BK160.out 2; have hfz82_3 := blk_frozen BK160.out 3; have hfz82_4 := blk_frozen BK160.out 4; have hfz82_5 := blk_frozen BK160.out 5; have hfz82_6 := blk_frozen BK160.out 6))
              rw [Exit.noGoto_ret]
              refine bodyPost_ret (results_ct rfl _ _ gb160 54 #[.bool x162000_1, .bool x162001_1, .bool x162002_1, .bool x162003_1, .int .i64 t165, .int .i64 x162005_33, .int .u8 t174] (0, 0) _ rfl (by (with_reducible repeat (first | refine blk_drewN ?_ _ | refine blk_drew ?_ | refine blk_alloc ?_ _)); refine blk_put (cs := #[.bool x162000_1, .bool x162001_1, .bool x162002_1, .bool x162003_1, .int .i64 t165, .int .i64 x162005_33, .int .u8 0]) ?_ 6 _ rfl; (with_reducible repeat (first | refine blk_drewN ?_ _ | refine blk_drew ?_ | refine blk_alloc ?_ _)); refine blk_put (cs := #[.bool x162000_1, .bool x162001_1, .bool x162002_1, .bool x162003_1, .int .i64 t165, .int .i64 0, .int .u8 0]) ?_ 5 _ rfl; (with_reducible repeat (first | refine blk_drewN ?_ _ | refine blk_drew ?_ | refine blk_alloc ?_ _)); refine blk_put (cs := #[.bool x162000_1, .bool x162001_1, .bool x162002_1, .bool x162003_1, .int .i64 0, .int .i64 0, .int .u8 0]) ?_ 4 _ rfl; (with_reducible repeat (first | refine blk_drewN ?_ _ | refine blk_drew ?_ | refine blk_alloc ?_ _)); refine blk_put (cs := #[.bool x162000_1, .bool x162001_1, .bool x162002_1, .bool false, .int .i64 0, .int .i64 0, .int .u8 0]) ?_ 3 _ rfl; (with_reducible repeat (first | refine blk_drewN ?_ _ | refine blk_drew ?_ | refine blk_alloc ?_ _)); refine blk_put (cs := #[.bool x162000_1, .bool x162001_1, .bool false, .bool false, .int .i64 0, .int .i64 0, .int .u8 0]) ?_ 2 _ rfl; (with_reducible repeat (first | refine blk_drewN ?_ _ | refine blk_drew ?_ | refine blk_alloc ?_ _)); refine blk_put (cs := #[.bool x162000_1, .bool false, .bool false, .bool false, .int .i64 0, .int .i64 0, .int .u8 0]) ?_ 1 _ rfl; (with_reducible repeat (first | refine blk_drewN ?_ _ | refine blk_drew ?_ | refine blk_alloc ?_ _)); refine blk_put (cs := #[.bool false, .bool false, .bool false, .bool false, .int .i64 0, .int .i64 0, .int .u8 0]) ?_ 0 _ rfl; (with_reducible repeat (first | refine blk_drewN ?_ _ | refine blk_drew ?_ | refine blk_alloc ?_ _)); refine blk_far ?_ NB160_0.out _; (with_reducible repeat (first | refine blk_drewN ?_ _ | refine blk_drew ?_ | refine blk_alloc ?_ _)); exact BK160.out) Tryd.underlying54 rfl (by kernel_rfl)) rfl ?_
              exact ⟨by first | rfl | (simp [errW_none, errW_some] <;> rfl) | (simp [errW_none, errW_some] <;> first | rfl | exact isEmpty_bne _) | (simp [*, errW_none, errW_some] <;> rfl), by repeat (first | (with_reducible first | exact HI0.out | apply IsS45.alloc | apply IsS45.drewN | apply IsS45.drew | apply IsS45.set_0 | apply IsS45.set_1 | apply IsS45.far (hne := NB0_160.out) | apply IsS45.far (hne := NB0_161.out)) | exact HI0.out), by repeat (first | (with_reducible first | exact HB.out | apply below_alloc | apply pw_below_drewN | apply below_drew1 | refine below_set ?_ (IsS45.ge HI0.out) | refine below_set ?_ GE160.out | refine below_set ?_ GE161.out) | exact HB.out), by repeat (first | (with_reducible first | exact HK.out | apply KeepBut.set_ | apply keep_drewN | apply keep_drew | apply keep_alloc | refine keep_far ?_ GW160.out _ | refine keep_far ?_ GW161.out _) | exact HK.out)⟩
             ·replace c71 := Bool.eq_false_iff.mpr c71
              subst c71
              have H1 : (some (x162000_1, x162001_1, x162002_1, x162003_1, t165, x162005_33, t174, 16, t175, t176)) = some (r1, r2, r3, r4, r5, r6, r7, r8, r9, r10) := by rw [if_neg (show ¬ (false = true) by decide)] at H; exact H
              clear H
              have H := H1
              clear H1
              simp only [Option.some.injEq, Prod.mk.injEq] at H
              obtain ⟨rfl, rfl, rfl, rfl, rfl, rfl, rfl, rfl, rfl, rfl⟩ := H
              go_wp2_with (first | ((with_reducible refine gate_callee (f := 17) rfl ?_); refine goesL_ (some 53) rfl rfl Tryd.func17 (by kernel_rfl) rfl #[.pointer (some ⟨g, 0, none⟩)] rfl (by (try simp only [List.map_toArray, List.map_cons, List.map_nil]); first | done | rfl | (simp only [List.length_drop, List.length_take]; rfl)) ?_; (with_reducible refine (format_reader_next.calls g x1000_33 x1001_33 t174 t175 t176 w0 _ ?side1 ?side2 ?side3 A62.out).mono ?_); (case side1 => repeat (first | (with_reducible first | exact HI0.out | apply IsS45.alloc | apply IsS45.drewN | apply IsS45.drew | apply IsS45.set_0 | apply IsS45.set_1 | apply IsS45.far (hne := NB0_160.out) | apply IsS45.far (hne := NB0_161.out)) | exact HI0.out)); (case side2 => repeat (first | (with_reducible first | exact HB.out | apply below_alloc | apply pw_below_drewN | apply below_drew1 | refine below_set ?_ (IsS45.ge HI0.out) | refine below_set ?_ GE160.out | refine below_set ?_ GE161.out) | exact HB.out)); (case side3 => exact hT); rintro e w83 ⟨rfl, hi, hb, hk⟩; refine ⟨_, rfl, ?_⟩; have n0_ := Aside0.mk (KeepBut.blk hk (g' := gb160) (o := .cells #[.bool false, .bool false, .bool false, .bool false, .int .i64 0, .int .i64 0, .int .u8 0] 54 (0, 0)) (by (with_reducible repeat (first | refine blk_drewN ?_ _ | refine blk_drew ?_ | refine blk_alloc ?_ _)); exact BK160.out) NB160_0.out (by simp)); have n1_ := Aside0.mk (KeepBut.blk hk (g' := gb161) (o := .cells #[.bool x162000_1, .bool x162001_1, .bool x162002_1, .bool x162003_1, .int .i64 t165, .int .i64 x162005_33, .int .u8 0] 54 (0, 0)) (by (with_reducible repeat (first | refine blk_drewN ?_ _ | refine blk_drew ?_ | refine blk_alloc ?_ _)); exact BK161.out) NB161_0.out (by simp)); have n2_ := Aside0.mk (KeepBut.trans (by repeat (first | (with_reducible first | exact HK.out | apply KeepBut.set_ | apply keep_drewN | apply keep_drew | apply keep_alloc | refine keep_far ?_ GW160.out _ | refine keep_far ?_ GW161.out _) | exact HK.out)) hk (.inl rfl)); have n3_ := Aside0.mk (hb); have n4_ := Aside0.mk (hi); clear BK160; clear BK161; clear HK; clear HB; clear HI0; have BK160 := n0_; have BK161 := n1_; have HK := n2_; have HB := n3_; have HI0 := n4_; clear n0_ n1_ n2_ n3_ n4_; (try clear hb); (try clear hb2); (try clear hk); (try clear hi); have hnb84 := NB161_160.out; have hnc84 := NB160_161.out; have hnb85 := NB161_0.out; have hnc85 := NB0_161.out; have hcz86_0 : w83.cell? ⟨gb161, 0, none⟩ = some (.bool x162000_1) := (blk_cell BK161.out 0).trans rfl; have hcz86_1 : w83.cell? ⟨gb161, 1, none⟩ = some (.bool x162001_1) := (blk_cell BK161.out 1).trans rfl; have hcz86_2 : w83.cell? ⟨gb161, 2, none⟩ = some (.bool x162002_1) := (blk_cell BK161.out 2).trans rfl; have hcz86_3 : w83.cell? ⟨gb161, 3, none⟩ = some (.bool x162003_1) := (blk_cell BK161.out 3).trans rfl; have hcz86_4 : w83.cell? ⟨gb161, 4, none⟩ = some (.int .i64 t165) := (blk_cell BK161.out 4).trans rfl; have hcz86_5 : w83.cell? ⟨gb161, 5, none⟩ = some (.int .i64 x162005_33) := (blk_cell BK161.out 5).trans rfl; have hcz86_6 : w83.cell? ⟨gb161, 6, none⟩ = some (.int .u8 0) := (blk_cell BK161.out 6).trans rfl; have hfz86_0 := blk_frozen BK161.out 0; have hfz86_1 := blk_frozen BK161.out 1; have hfz86_2 := blk_frozen BK161.out 2; have hfz86_3 := blk_frozen BK161.out 3; have hfz86_4 := blk_frozen BK161.out 4; have hfz86_5 := blk_frozen BK161.out 5; have hfz86_6 := blk_frozen BK161.out 6) | ((with_reducible refine gate_dst (N := 61) rfl ?_); (try (refine gate_guard (by rfl) ?_; dsimp only)); refine Kd.R_lit (Kd.int .u8) _ 5 ?hg (N := 61) ?hd (xs := ([t174] : List Int)) (inner := [.int .u8 t174]) (ok := fun _ => True) (okp := fun _ => True) ?hr ?hp (fun _ hk => hk) trivial (Below.refl _ _) (Nat.le_refl _) (by simp) ?_; (case hd => rfl); (case hg => rfl); (case hr => first | (go_simp; done) | (go_simp; rfl)); (case hp => exact (Reps.one (show Kd.M (Kd.int .u8) _ _ _ t174 [.int .u8 t174] from rfl) (Reps.none _ _))); intro v178 w87 ho88 hb hg_ hnew_; clear hg_ hnew_; (first | rw [← Ny177.out] at ho88 | (simp only [Int.reduceToNat] at ho88; rw [← Ny177.out] at ho88)); have n0_ := Aside0.mk (Kd.R_lower ho88 (keep_size (w := w) (g := g) (row := none) (by repeat (first | (with_reducible first | exact HK.out | apply KeepBut.set_ | apply keep_drewN | apply keep_drew | apply keep_alloc | refine keep_far ?_ GW160.out _ | refine keep_far ?_ GW161.out _) | exact HK.out)))); have n1_ := Aside0.mk (blk_below (g := gb160) (o := .cells #[.bool false, .bool false, .bool false, .bool false, .int .i64 0, .int .i64 0, .int .u8 0] 54 (0, 0)) (by (with_reducible repeat (first | refine blk_drewN ?_ _ | refine blk_drew ?_ | refine blk_alloc ?_ _)); refine blk_far ?_ NB160_161.out _; (with_reducible repeat (first | refine blk_drewN ?_ _ | refine blk_drew ?_ | refine blk_alloc ?_ _)); exact BK160.out) hb); have n2_ := Aside0.mk (blk_below (g := gb161) (o := .cells #[.bool x162000_1, .bool x162001_1, .bool x162002_1, .bool x162003_1, .int .i64 t165, .int .i64 x162005_33, .int .u8 t174] 54 (0, 0)) (by (with_reducible repeat (first | refine blk_drewN ?_ _ | refine blk_drew ?_ | refine blk_alloc ?_ _)); refine blk_put (cs := #[.bool x162000_1, .bool x162001_1, .bool x162002_1, .bool x162003_1, .int .i64 t165, .int .i64 x162005_33, .int .u8 0]) ?_ 6 _ rfl; (with_reducible repeat (first | refine blk_drewN ?_ _ | refine blk_drew ?_ | refine blk_alloc ?_ _)); exact BK161.out) hb); have n3_ := Aside0.mk (IsS45.below (show IsS45 w0 (w83.setCell ⟨gb161, 6, none⟩ (.int .u8 t174)) g t175 t176 from by repeat (first | (with_reducible first | exact HI0.out | apply IsS45.alloc | apply IsS45.drewN | apply IsS45.drew | apply IsS45.set_0 | apply IsS45.set_1 | apply IsS45.far (hne := NB0_160.out) | apply IsS45.far (hne := NB0_161.out)) | exact HI0.out)) hb); have n4_ := Aside0.mk (KeepBut.trans (by repeat (first | (with_reducible first | exact HK.out | apply KeepBut.set_ | apply keep_drewN | apply keep_drew | apply keep_alloc | refine keep_far ?_ GW160.out _ | refine keep_far ?_ GW161.out _) | exact HK.out)) (KeepBut.of_below hb g none) (.inl rfl)); have n5_ := Aside0.mk (below_step (by repeat (first | (with_reducible first | exact HB.out | apply below_alloc | apply pw_below_drewN | apply below_drew1 | refine below_set ?_ (IsS45.ge HI0.out) | refine below_set ?_ GE160.out | refine below_set ?_ GE161.out) | exact HB.out)) hb); clear BK160; clear BK161; clear HI0; clear HK; clear HB; have HO179 := n0_; have BK160 := n1_; have BK161 := n2_; have HI0 := n3_; have HK := n4_; have HB := n5_; clear n0_ n1_ n2_ n3_ n4_ n5_; clear hb ho88; have hcv89 := own_string (P := Tryd.prog) Tryd.underlying36 Tryd.underlying5 Tryd.underlying9 (Kd.own_of_R HO179.out)) | (go_at_call 30; (with_reducible refine (strings_Contains.calls (⟨#[100, 105, 120, 102, 115, 99, 37]⟩ : ByteArray) (strOfNums y177) false _ ?side1 A70.out).mono ?_); (case side1 => exact TB.below hT (by repeat (first | (with_reducible first | exact HB.out | apply below_alloc | apply pw_below_drewN | apply below_drew1 | refine below_set ?_ (IsS45.ge HI0.out) | refine below_set ?_ GE160.out | refine below_set ?_ GE161.out) | exact HB.out))); rintro e w' ⟨rfl, ⟨nd, rfl⟩⟩; (try (rw [drewN_self w87]; generalize hq_ : World.drewN w87 _ = w87; have n0_ : Aside0 (Kd.R (Kd.int .u8) 5 w87 w.heap.size (fun _ => True) v178 y177) := ⟨by rw [← hq_]; exact (by (with_reducible repeat (first | apply Kd.R_alloc | apply Kd.R_drewN | apply Kd.R_drew)); exact HO179.out)⟩; have n1_ : Aside0 (w87.heap[gb160]? = some (.cells #[.bool false, .bool false, .bool false, .bool false, .int .i64 0, .int .i64 0, .int .u8 0] 54 (0, 0))) := ⟨by rw [← hq_]; exact (by (with_reducible repeat (first | refine blk_drewN ?_ _ | refine blk_drew ?_ | refine blk_alloc ?_ _)); exact BK160.out)⟩; have n2_ : Aside0 (w87.heap[gb161]? = some (.cells #[.bool x162000_1, .bool x162001_1, .bool x162002_1, .bool x162003_1, .int .i64 t165, .int .i64 x162005_33, .int .u8 t174] 54 (0, 0))) := ⟨by rw [← hq_]; exact (by (with_reducible repeat (first | refine blk_drewN ?_ _ | refine blk_drew ?_ | refine blk_alloc ?_ _)); exact BK161.out)⟩; have n3_ : Aside0 (IsS45 w0 w87 g t175 t176) := ⟨by rw [← hq_]; exact (by repeat (first | (with_reducible first | exact HI0.out | apply IsS45.alloc | apply IsS45.drewN | apply IsS45.drew | apply IsS45.set_0 | apply IsS45.set_1 | apply IsS45.far (hne := NB0_160.out) | apply IsS45.far (hne := NB0_161.out)) | exact HI0.out))⟩; have n4_ : Aside0 (KeepBut w w87 g none) := ⟨by rw [← hq_]; exact (by repeat (first | (with_reducible first | exact HK.out | apply KeepBut.set_ | apply keep_drewN | apply keep_drew | apply keep_alloc | refine keep_far ?_ GW160.out _ | refine keep_far ?_ GW161.out _) | exact HK.out))⟩; have n5_ : Aside0 (Below w0.heap.size w0 w87) := ⟨by rw [← hq_]; exact (by repeat (first | (with_reducible first | exact HB.out | apply below_alloc | apply pw_below_drewN | apply below_drew1 | refine below_set ?_ (IsS45.ge HI0.out) | refine below_set ?_ GE160.out | refine below_set ?_ GE161.out) | exact HB.out))⟩; clear HO179 BK160 BK161 HI0 HK HB hq_; have HO179 := n0_; have BK160 := n1_; have BK161 := n2_; have HI0 := n3_; have HK := n4_; have HB := n5_; clear n0_ n1_ n2_ n3_ n4_ n5_)); have hcz90_0 : w87.cell? ⟨gb161, 0, none⟩ = some (.bool x162000_1) := (blk_cell BK161.out 0).trans rfl; have hcz90_1 : w87.cell? ⟨gb161, 1, none⟩ = some (.bool x162001_1) := (blk_cell BK161.out 1).trans rfl; have hcz90_2 : w87.cell? ⟨gb161, 2, none⟩ = some (.bool x162002_1) := (blk_cell BK161.out 2).trans rfl; have hcz90_3 : w87.cell? ⟨gb161, 3, none⟩ = some (.bool x162003_1) := (blk_cell BK161.out 3).trans rfl; have hcz90_4 : w87.cell? ⟨gb161, 4, none⟩ = some (.int .i64 t165) := (blk_cell BK161.out 4).trans rfl; have hcz90_5 : w87.cell? ⟨gb161, 5, none⟩ = some (.int .i64 x162005_33) := (blk_cell BK161.out 5).trans rfl; have hcz90_6 : w87.cell? ⟨gb161, 6, none⟩ = some (.int .u8 t174) := (blk_cell BK161.out 6).trans rfl; have hfz90_0 := blk_frozen BK161.out 0; have hfz90_1 := blk_frozen BK161.out 1; have hfz90_2 := blk_frozen BK161.out 2; have hfz90_3 := blk_frozen BK161.out 3; have hfz90_4 := blk_frozen BK161.out 4; have hfz90_5 := blk_frozen BK161.out 5; have hfz90_6 := blk_frozen BK161.out 6; have hnb91 := NB160_0.out; have hnc91 := NB0_160.out; have hcz92_0 : w87.cell? ⟨gb160, 0, none⟩ = some (.bool false) := (blk_cell BK160.out 0).trans rfl; have hcz92_1 : w87.cell? ⟨gb160, 1, none⟩ = some (.bool false) := (blk_cell BK160.out 1).trans rfl; have hcz92_2 : w87.cell? ⟨gb160, 2, none⟩ = some (.bool false) := (blk_cell BK160.out 2).trans rfl; have hcz92_3 : w87.cell? ⟨gb160, 3, none⟩ = some (.bool false) := (blk_cell BK160.out 3).trans rfl; have hcz92_4 : w87.cell? ⟨gb160, 4, none⟩ = some (.int .i64 0) := (blk_cell BK160.out 4).trans rfl; have hcz92_5 : w87.cell? ⟨gb160, 5, none⟩ = some (.int .i64 0) := (blk_cell BK160.out 5).trans rfl; have hcz92_6 : w87.cell? ⟨gb160, 6, none⟩ = some (.int .u8 0) := (blk_cell BK160.out 6).trans rfl; have hfz92_0 := blk_frozen BK160.out 0; have hfz92_1 := blk_frozen BK160.out 1; have hfz92_2 := blk_frozen BK160.out 2; have hfz92_3 := blk_frozen BK160.out 3; have hfz92_4 := blk_frozen BK160.out 4; have hfz92_5 := blk_frozen BK160.out 5; have hfz92_6 := blk_frozen BK160.out 6))
              rw [Exit.noGoto_ret]
              refine bodyPost_ret (results_ct rfl _ _ gb160 54 #[.bool x162000_1, .bool x162001_1, .bool x162002_1, .bool x162003_1, .int .i64 t165, .int .i64 x162005_33, .int .u8 t174] (0, 0) _ rfl (by (with_reducible repeat (first | refine blk_drewN ?_ _ | refine blk_drew ?_ | refine blk_alloc ?_ _)); refine blk_put (cs := #[.bool x162000_1, .bool x162001_1, .bool x162002_1, .bool x162003_1, .int .i64 t165, .int .i64 x162005_33, .int .u8 0]) ?_ 6 _ rfl; (with_reducible repeat (first | refine blk_drewN ?_ _ | refine blk_drew ?_ | refine blk_alloc ?_ _)); refine blk_put (cs := #[.bool x162000_1, .bool x162001_1, .bool x162002_1, .bool x162003_1, .int .i64 t165, .int .i64 0, .int .u8 0]) ?_ 5 _ rfl; (with_reducible repeat (first | refine blk_drewN ?_ _ | refine blk_drew ?_ | refine blk_alloc ?_ _)); refine blk_put (cs := #[.bool x162000_1, .bool x162001_1, .bool x162002_1, .bool x162003_1, .int .i64 0, .int .i64 0, .int .u8 0]) ?_ 4 _ rfl; (with_reducible repeat (first | refine blk_drewN ?_ _ | refine blk_drew ?_ | refine blk_alloc ?_ _)); refine blk_put (cs := #[.bool x162000_1, .bool x162001_1, .bool x162002_1, .bool false, .int .i64 0, .int .i64 0, .int .u8 0]) ?_ 3 _ rfl; (with_reducible repeat (first | refine blk_drewN ?_ _ | refine blk_drew ?_ | refine blk_alloc ?_ _)); refine blk_put (cs := #[.bool x162000_1, .bool x162001_1, .bool false, .bool false, .int .i64 0, .int .i64 0, .int .u8 0]) ?_ 2 _ rfl; (with_reducible repeat (first | refine blk_drewN ?_ _ | refine blk_drew ?_ | refine blk_alloc ?_ _)); refine blk_put (cs := #[.bool x162000_1, .bool false, .bool false, .bool false, .int .i64 0, .int .i64 0, .int .u8 0]) ?_ 1 _ rfl; (with_reducible repeat (first | refine blk_drewN ?_ _ | refine blk_drew ?_ | refine blk_alloc ?_ _)); refine blk_put (cs := #[.bool false, .bool false, .bool false, .bool false, .int .i64 0, .int .i64 0, .int .u8 0]) ?_ 0 _ rfl; (with_reducible repeat (first | refine blk_drewN ?_ _ | refine blk_drew ?_ | refine blk_alloc ?_ _)); exact BK160.out) Tryd.underlying54 rfl (by kernel_rfl)) rfl ?_
              exact ⟨by first | rfl | (simp [errW_none, errW_some] <;> rfl) | (simp [errW_none, errW_some] <;> first | rfl | exact isEmpty_bne _) | (simp [*, errW_none, errW_some] <;> rfl), by repeat (first | (with_reducible first | exact HI0.out | apply IsS45.alloc | apply IsS45.drewN | apply IsS45.drew | apply IsS45.set_0 | apply IsS45.set_1 | apply IsS45.far (hne := NB0_160.out) | apply IsS45.far (hne := NB0_161.out)) | exact HI0.out), by repeat (first | (with_reducible first | exact HB.out | apply below_alloc | apply pw_below_drewN | apply below_drew1 | refine below_set ?_ (IsS45.ge HI0.out) | refine below_set ?_ GE160.out | refine below_set ?_ GE161.out) | exact HB.out), by repeat (first | (with_reducible first | exact HK.out | apply KeepBut.set_ | apply keep_drewN | apply keep_drew | apply keep_alloc | refine keep_far ?_ GW160.out _ | refine keep_far ?_ GW161.out _) | exact HK.out)⟩

end Go.Proofs.YtmobbclpfbkkkaaDoor.Pr
