/- The machine's side, written by a patched print (wip/tools): each theorem says that a call of the Go function comes to what the Lean function beside it computes, where the tables are laid (TB). -/
import Derived.WalkMore
import Derived.Test.YthlffghlkggimaaPuRxS
import Derived.Test.YthlffghlkggimaaPr0
import Derived.Test.YthlffghlkggimaaPr11
import Derived.Test.YthlffghlkggimaaPr12
namespace Go.Proofs.Ythlffghlkggimaa.Pr
open Go.RowKit Go.Proofs.YthlffghlkggimaaW.PrintWords Go.Proofs.YthlffghlkggimaaW.PrintLast Go.Proofs.YthlffghlkggimaaW.PrintMore
attribute [local go_sem] fld30_0 fld30_1 fld30_2 fld58_0 fld58_1 fld58_2 fld58_3 fld58_4 fld66_0 fld66_1 fld76_0 fld76_1 fld76_2 fld76_3 fld76_4 fld84_0 fld84_1 fld84_2 fld84_3 fld93_0 fld93_1 fld93_2 fld9000_0 fld9000_1 fld9000_2 fld9000_3 fld9000_4 binOp_string_gtr2 binOp_string_leq2 binOp_string_geq2 max2_int min2_int max_two min_two max_three min_three max_four min_four   -- for this text's walks alone
set_option linter.unusedVariables false
set_option linter.unusedSimpArgs false
theorem qg0 {P : Prop} (h : P := by repeat (first | (with_reducible first | exact HK.out | apply KeepBut.set_ | apply keep_drewN | apply keep_drew | apply keep_alloc) | exact HK.out)) : P := h
theorem qg1 {P : Prop} (h : P := by first | rfl | (simp; done) | (simp [*]; done) | (simp; unfold wrap64; omega)) : P := h
theorem qg2 {P : Prop} (h : P := by (try simp only [List.map_toArray, List.map_cons, List.map_nil]); first | done | rfl | (simp only [List.length_drop, List.length_take]; rfl)) : P := h
theorem qg3 {P : Prop} (h : P := by repeat (first | (with_reducible first | exact HB.out | apply below_alloc | apply pw_below_drewN | apply below_drew1 | refine below_set ?_ (IsS66.ge HI0.out)) | exact HB.out)) : P := h
theorem qg4 {P : Prop} (h : P := by (with_reducible repeat (first | apply Kd.R_alloc | apply Kd.R_drewN | apply Kd.R_drew)); exact HO_13.out) : P := h
theorem qg5 {P : Prop} (h : P := by (with_reducible repeat (first | apply Kd.R_alloc | apply Kd.R_drewN | apply Kd.R_drew)); exact HO_64.out) : P := h
theorem qg6 {P : Prop} (h : P := by repeat (first | (with_reducible first | exact HB.out | apply below_alloc | apply pw_below_drewN | apply below_drew1 | refine below_set ?_ (IsS66.ge HI0.out) | refine below_set ?_ GE406.out) | exact HB.out)) : P := h
theorem qg7 {P : Prop} (h : P := by repeat (first | (with_reducible first | exact HI0.out | apply IsS66.alloc | apply IsS66.drewN | apply IsS66.drew | apply IsS66.set_1) | exact HI0.out)) : P := h
theorem qg8 {P : Prop} (h : P := by repeat (first | (with_reducible first | exact HK.out | apply KeepBut.set_ | apply keep_drewN | apply keep_drew | apply keep_alloc | refine keep_far ?_ GW406.out _) | exact HK.out)) : P := h
theorem qg9 {P : Prop} (h : P := by (with_reducible repeat (first | refine blk_drewN ?_ _ | refine blk_drew ?_ | refine blk_alloc ?_ _)); exact BK406.out) : P := h
theorem qg10 {P : Prop} (h : P := by repeat (first | (with_reducible first | exact HI0.out | apply IsS66.alloc | apply IsS66.drewN | apply IsS66.drew | apply IsS66.set_1 | apply IsS66.far (hne := NB0_406.out)) | exact HI0.out)) : P := h

/-! ### match_Prog_Find: function 15 -/
mutual
def match_Prog_Find.j0 : Nat → ByteArray → Int → Bool → List (S68) → Int → Option (Int × Int × Bool × Int)
 | 0, _, _, _, _, _ => none
 | k + 1, x1, x2, x25, x1000, x1001 => if x25 = true then (some (0, 0, false, x1001)) else ((match_Prog_fresh.f k x1000 x1001).bind fun bt392 => (match_Prog_Find.l0 k x1 1099511627776 0 bt392.1 x2 x1000 bt392.2))
def match_Prog_Find.l0 : Nat → ByteArray → Int → Int → List Int → Int → List (S68) → Int → Option (Int × Int × Bool × Int)
 | 0, _, _, _, _, _, _, _ => none
 | k + 1, x1, x9, x10, x11, x12, x1000, x1001 => if x9 = 1099511627776 then ((match_Prog_close.f k x1000 x1001 x11 x1001 x12 (x12 == 0) (x12 == (x1.size : Int))).bind fun bt396 => (match_Prog_Find.j2 k x1 x9 x10 bt396.2 x12 x1000 bt396.1)) else (match_Prog_Find.j2 k x1 x9 x10 x11 x12 x1000 x1001)
def match_Prog_Find.j2 : Nat → ByteArray → Int → Int → List Int → Int → List (S68) → Int → Option (Int × Int × Bool × Int)
 | 0, _, _, _, _, _, _, _ => none
 | k + 1, x1, x9, x10, x11, x12, x1000, x1001 => if 0 < (x11.length : Int) then (if (rd x11 0) ≤ x9 then (match_Prog_Find.j3 k x1 (rd x11 0) x12 x11 x12 x1000 x1001) else (match_Prog_Find.j3 k x1 x9 x10 x11 x12 x1000 x1001)) else (none)
def match_Prog_Find.j3 : Nat → ByteArray → Int → Int → List Int → Int → List (S68) → Int → Option (Int × Int × Bool × Int)
 | 0, _, _, _, _, _, _, _ => none
 | k + 1, x1, x9, x10, x11, x12, x1000, x1001 => if x12 = (x1.size : Int) then (if x9 = 1099511627776 then (some (0, 0, false, x1001)) else (some (x9, x10, true, x1001))) else ((match_Prog_fresh.f k x1000 x1001).bind fun bt400 => (match_Prog_Find.l1 k x1 x9 x10 x12 bt400.1 (x9 == 1099511627776) x11 (x11.length : Int) 0 x1000 bt400.2))
def match_Prog_Find.l1 : Nat → ByteArray → Int → Int → Int → List Int → Bool → List Int → Int → Int → List (S68) → Int → Option (Int × Int × Bool × Int)
 | 0, _, _, _, _, _, _, _, _, _, _, _ => none
 | k + 1, x1, x9, x10, x12, x13, x14, x64, x65, x66, x1000, x1001 => if x66 < x65 then (if 0 ≤ x66 then (if x66 < (x64.length : Int) then (if x66 < (x1000.length : Int) then (if (rd x64 x66) ≤ x9 then (if (rd x64 x66) < 1099511627776 then (if ((rd_T68 x1000 x66).f0) = 0 then (if 0 ≤ x12 then (if x12 < (x1.size : Int) then ((regex_Set_Has.f ((rd_T68 x1000 x66).f1.f0) ((rd_T68 x1000 x66).f1.f1) ((rd_T68 x1000 x66).f1.f2) ((rd_T68 x1000 x66).f1.f3) (bt x1 x12)).bind fun t407 => (if t407 = true then ((match_Prog_close.f k x1000 x1001 x13 ((rd_T68 x1000 x66).f2) (rd x64 x66) false ((wrap64 (x12 + 1)) == (x1.size : Int))).bind fun bt408 => (match_Prog_Find.l1 k x1 x9 x10 x12 bt408.2 true x64 x65 (wrap64 (x66 + 1)) x1000 bt408.1)) else (match_Prog_Find.l1 k x1 x9 x10 x12 x13 x14 x64 x65 (wrap64 (x66 + 1)) x1000 x1001))) else (none)) else (none)) else (match_Prog_Find.l1 k x1 x9 x10 x12 x13 x14 x64 x65 (wrap64 (x66 + 1)) x1000 x1001)) else (match_Prog_Find.l1 k x1 x9 x10 x12 x13 x14 x64 x65 (wrap64 (x66 + 1)) x1000 x1001)) else (match_Prog_Find.l1 k x1 x9 x10 x12 x13 x14 x64 x65 (wrap64 (x66 + 1)) x1000 x1001)) else (none)) else (none)) else (none)) else (if x14 = true then (match_Prog_Find.l0 k x1 x9 x10 x13 (wrap64 (x12 + 1)) x1000 x1001) else (if x9 = 1099511627776 then (some (0, 0, false, x1001)) else (some (x9, x10, true, x1001))))
end
def match_Prog_Find.f (k : Nat) (s0_0 : List (S68)) (s0_1 : Int) (a1 : ByteArray) (a2 : Int) : Option (Int × Int × Bool × Int) := if a2 < 0 then (match_Prog_Find.j0 k a1 a2 true s0_0 s0_1) else (match_Prog_Find.j0 k a1 a2 (decide (a2 > (a1.size : Int))) s0_0 s0_1)
theorem match_Prog_Find.mono_l : ∀ k, (∀ y0 y1 y2 y3 y4, LeO (match_Prog_Find.j0 k y0 y1 y2 y3 y4) (match_Prog_Find.j0 (k + 1) y0 y1 y2 y3 y4)) ∧ (∀ y0 y1 y2 y3 y4 y5 y6, LeO (match_Prog_Find.l0 k y0 y1 y2 y3 y4 y5 y6) (match_Prog_Find.l0 (k + 1) y0 y1 y2 y3 y4 y5 y6)) ∧ (∀ y0 y1 y2 y3 y4 y5 y6, LeO (match_Prog_Find.j2 k y0 y1 y2 y3 y4 y5 y6) (match_Prog_Find.j2 (k + 1) y0 y1 y2 y3 y4 y5 y6)) ∧ (∀ y0 y1 y2 y3 y4 y5 y6, LeO (match_Prog_Find.j3 k y0 y1 y2 y3 y4 y5 y6) (match_Prog_Find.j3 (k + 1) y0 y1 y2 y3 y4 y5 y6)) ∧ (∀ y0 y1 y2 y3 y4 y5 y6 y7 y8 y9 y10, LeO (match_Prog_Find.l1 k y0 y1 y2 y3 y4 y5 y6 y7 y8 y9 y10) (match_Prog_Find.l1 (k + 1) y0 y1 y2 y3 y4 y5 y6 y7 y8 y9 y10))
 | 0 => ⟨fun _ _ _ _ _ r h => by simp [match_Prog_Find.j0] at h, fun _ _ _ _ _ _ _ r h => by simp [match_Prog_Find.l0] at h, fun _ _ _ _ _ _ _ r h => by simp [match_Prog_Find.j2] at h, fun _ _ _ _ _ _ _ r h => by simp [match_Prog_Find.j3] at h, fun _ _ _ _ _ _ _ _ _ _ _ r h => by simp [match_Prog_Find.l1] at h⟩
 | k + 1 => by
  obtain ⟨ih0, ih1, ih2, ih3, ih4⟩ := match_Prog_Find.mono_l k
  refine ⟨?_, ?_, ?_, ?_, ?_⟩
  ·intro y0 y1 y2 y3 y4
   unfold match_Prog_Find.j0
   repeat' first
   | (with_reducible exact ih0 _ _ _ _ _)
   | (with_reducible exact ih1 _ _ _ _ _ _ _)
   | (with_reducible exact ih2 _ _ _ _ _ _ _)
   | (with_reducible exact ih3 _ _ _ _ _ _ _)
   | (with_reducible exact ih4 _ _ _ _ _ _ _ _ _ _ _)
   | (with_reducible exact match_Prog_close.mono _ _ _ _ _ _ _ _)
   | (with_reducible exact match_Prog_fresh.mono _ _ _)
   | (with_reducible exact LeO.refl _)
   | (with_reducible exact LeO.none _)
   | (with_reducible refine LeO.ite ?_ ?_)
   | (with_reducible refine LeO.bind ?_ (fun _ => ?_))
   | exact ih0 _ _ _ _ _
   | exact ih1 _ _ _ _ _ _ _
   | exact ih2 _ _ _ _ _ _ _
   | exact ih3 _ _ _ _ _ _ _
   | exact ih4 _ _ _ _ _ _ _ _ _ _ _
   | exact match_Prog_close.mono _ _ _ _ _ _ _ _
   | exact match_Prog_fresh.mono _ _ _
   | exact LeO.none _
   | refine LeO.ite ?_ ?_
   | refine LeO.bind ?_ (fun _ => ?_)
  ·intro y0 y1 y2 y3 y4 y5 y6
   unfold match_Prog_Find.l0
   repeat' first
   | (with_reducible exact ih0 _ _ _ _ _)
   | (with_reducible exact ih1 _ _ _ _ _ _ _)
   | (with_reducible exact ih2 _ _ _ _ _ _ _)
   | (with_reducible exact ih3 _ _ _ _ _ _ _)
   | (with_reducible exact ih4 _ _ _ _ _ _ _ _ _ _ _)
   | (with_reducible exact match_Prog_close.mono _ _ _ _ _ _ _ _)
   | (with_reducible exact match_Prog_fresh.mono _ _ _)
   | (with_reducible exact LeO.refl _)
   | (with_reducible exact LeO.none _)
   | (with_reducible refine LeO.ite ?_ ?_)
   | (with_reducible refine LeO.bind ?_ (fun _ => ?_))
   | exact ih0 _ _ _ _ _
   | exact ih1 _ _ _ _ _ _ _
   | exact ih2 _ _ _ _ _ _ _
   | exact ih3 _ _ _ _ _ _ _
   | exact ih4 _ _ _ _ _ _ _ _ _ _ _
   | exact match_Prog_close.mono _ _ _ _ _ _ _ _
   | exact match_Prog_fresh.mono _ _ _
   | exact LeO.none _
   | refine LeO.ite ?_ ?_
   | refine LeO.bind ?_ (fun _ => ?_)
  ·intro y0 y1 y2 y3 y4 y5 y6
   unfold match_Prog_Find.j2
   repeat' first
   | (with_reducible exact ih0 _ _ _ _ _)
   | (with_reducible exact ih1 _ _ _ _ _ _ _)
   | (with_reducible exact ih2 _ _ _ _ _ _ _)
   | (with_reducible exact ih3 _ _ _ _ _ _ _)
   | (with_reducible exact ih4 _ _ _ _ _ _ _ _ _ _ _)
   | (with_reducible exact match_Prog_close.mono _ _ _ _ _ _ _ _)
   | (with_reducible exact match_Prog_fresh.mono _ _ _)
   | (with_reducible exact LeO.refl _)
   | (with_reducible exact LeO.none _)
   | (with_reducible refine LeO.ite ?_ ?_)
   | (with_reducible refine LeO.bind ?_ (fun _ => ?_))
   | exact ih0 _ _ _ _ _
   | exact ih1 _ _ _ _ _ _ _
   | exact ih2 _ _ _ _ _ _ _
   | exact ih3 _ _ _ _ _ _ _
   | exact ih4 _ _ _ _ _ _ _ _ _ _ _
   | exact match_Prog_close.mono _ _ _ _ _ _ _ _
   | exact match_Prog_fresh.mono _ _ _
   | exact LeO.none _
   | refine LeO.ite ?_ ?_
   | refine LeO.bind ?_ (fun _ => ?_)
  ·intro y0 y1 y2 y3 y4 y5 y6
   unfold match_Prog_Find.j3
   repeat' first
   | (with_reducible exact ih0 _ _ _ _ _)
   | (with_reducible exact ih1 _ _ _ _ _ _ _)
   | (with_reducible exact ih2 _ _ _ _ _ _ _)
   | (with_reducible exact ih3 _ _ _ _ _ _ _)
   | (with_reducible exact ih4 _ _ _ _ _ _ _ _ _ _ _)
   | (with_reducible exact match_Prog_close.mono _ _ _ _ _ _ _ _)
   | (with_reducible exact match_Prog_fresh.mono _ _ _)
   | (with_reducible exact LeO.refl _)
   | (with_reducible exact LeO.none _)
   | (with_reducible refine LeO.ite ?_ ?_)
   | (with_reducible refine LeO.bind ?_ (fun _ => ?_))
   | exact ih0 _ _ _ _ _
   | exact ih1 _ _ _ _ _ _ _
   | exact ih2 _ _ _ _ _ _ _
   | exact ih3 _ _ _ _ _ _ _
   | exact ih4 _ _ _ _ _ _ _ _ _ _ _
   | exact match_Prog_close.mono _ _ _ _ _ _ _ _
   | exact match_Prog_fresh.mono _ _ _
   | exact LeO.none _
   | refine LeO.ite ?_ ?_
   | refine LeO.bind ?_ (fun _ => ?_)
  ·intro y0 y1 y2 y3 y4 y5 y6 y7 y8 y9 y10
   unfold match_Prog_Find.l1
   repeat' first
   | (with_reducible exact ih0 _ _ _ _ _)
   | (with_reducible exact ih1 _ _ _ _ _ _ _)
   | (with_reducible exact ih2 _ _ _ _ _ _ _)
   | (with_reducible exact ih3 _ _ _ _ _ _ _)
   | (with_reducible exact ih4 _ _ _ _ _ _ _ _ _ _ _)
   | (with_reducible exact match_Prog_close.mono _ _ _ _ _ _ _ _)
   | (with_reducible exact match_Prog_fresh.mono _ _ _)
   | (with_reducible exact LeO.refl _)
   | (with_reducible exact LeO.none _)
   | (with_reducible refine LeO.ite ?_ ?_)
   | (with_reducible refine LeO.bind ?_ (fun _ => ?_))
   | exact ih0 _ _ _ _ _
   | exact ih1 _ _ _ _ _ _ _
   | exact ih2 _ _ _ _ _ _ _
   | exact ih3 _ _ _ _ _ _ _
   | exact ih4 _ _ _ _ _ _ _ _ _ _ _
   | exact match_Prog_close.mono _ _ _ _ _ _ _ _
   | exact match_Prog_fresh.mono _ _ _
   | exact LeO.none _
   | refine LeO.ite ?_ ?_
   | refine LeO.bind ?_ (fun _ => ?_)
theorem match_Prog_Find.mono : ∀ a0 a1 a2 a3 k, LeO (match_Prog_Find.f k a0 a1 a2 a3) (match_Prog_Find.f (k + 1) a0 a1 a2 a3) := by
 intro a0 a1 a2 a3 k
 obtain ⟨ih0, ih1, ih2, ih3, ih4⟩ := match_Prog_Find.mono_l k
 unfold match_Prog_Find.f
 repeat' first
   | (with_reducible exact ih0 _ _ _ _ _)
   | (with_reducible exact ih1 _ _ _ _ _ _ _)
   | (with_reducible exact ih2 _ _ _ _ _ _ _)
   | (with_reducible exact ih3 _ _ _ _ _ _ _)
   | (with_reducible exact ih4 _ _ _ _ _ _ _ _ _ _ _)
   | (with_reducible exact match_Prog_close.mono _ _ _ _ _ _ _ _)
   | (with_reducible exact match_Prog_fresh.mono _ _ _)
   | (with_reducible exact LeO.refl _)
   | (with_reducible exact LeO.none _)
   | (with_reducible refine LeO.ite ?_ ?_)
   | (with_reducible refine LeO.bind ?_ (fun _ => ?_))
   | exact ih0 _ _ _ _ _
   | exact ih1 _ _ _ _ _ _ _
   | exact ih2 _ _ _ _ _ _ _
   | exact ih3 _ _ _ _ _ _ _
   | exact ih4 _ _ _ _ _ _ _ _ _ _ _
   | exact match_Prog_close.mono _ _ _ _ _ _ _ _
   | exact match_Prog_fresh.mono _ _ _
   | exact LeO.none _
   | refine LeO.ite ?_ ?_
   | refine LeO.bind ?_ (fun _ => ?_)
def match_Prog_Find.T17 : Bool × List (List Nat × List Nat) := (true, [([], []), ([], []), ([0, 1], [0, 1]), ([2], [2]), ([3], [3]), ([4, 3], [3, 4]), ([3, 5], [3, 5]), ([6, 3], [6]), ([7], [7]), ([8, 7], [7, 8]), ([9, 7], [7, 9]), ([7, 10], [7, 10]), ([11, 7], [11]), ([12], [12]), ([13, 12], [12, 13]), ([12], [12]), ([12], [12]), ([15, 16, 12], [12, 15, 16]), ([14, 17, 12, 12], [12, 14, 17]), ([12, 18], [12, 18])])
def match_Prog_Find.B17 : List Nat := [0, 0, 3, 7, 15, 31, 63, 127, 255, 511, 1023, 2047, 4095, 8191, 16383, 8191, 8191, 106495, 262143, 524287]
theorem match_Prog_Find.tab17 : rtab .any (opsOf Try.f15 17) = match_Prog_Find.T17 := by kernel_rfl
theorem match_Prog_Find.bits17 : waitsOk match_Prog_Find.T17.2 match_Prog_Find.B17 = true := by kernel_rfl
set_option maxHeartbeats 8000000 in
set_option maxRecDepth 100000 in
theorem match_Prog_Find.calls (k : Nat) (g : Nat) (s0_0 : List (S68)) (s0_1 : Int) (a1 : ByteArray) (a2 : Int) (r1 : Int) (r2 : Int) (r3 : Bool) (r4 : Int) (w0 w : World) (hI : IsS66 w0 w g s0_0 s0_1) (hB : Below w0.heap.size w0 w) (hT : TB w0) (h : match_Prog_Find.f k s0_0 s0_1 a1 a2 = some (r1, r2, r3, r4)) :
  Calls Try.prog 15 #[.pointer (some ⟨g, 0, none⟩), .string a1, .int .i64 a2] w fun e w' => e = .returned (.tuple #[.int .i64 r1, .int .i64 r2, .bool r3]) ∧ IsS66 w0 w' g s0_0 r4 ∧ Below w0.heap.size w0 w' ∧ KeepBut w w' g none := by
 have hu68 := Try.underlying68
 have hu49 := Try.underlying49
 have HI0 := Aside0.mk hI
 have HK := Aside0.mk (KeepBut.refl w g none)
 have HL := Aside0.mk hB.size
 clear hI
 have HW0 := Aside0.mk hB.size
 have HB := Aside0.mk hB
 clear hB
 have H : (if a2 < 0 then (match_Prog_Find.j0 k a1 a2 true s0_0 s0_1) else (match_Prog_Find.j0 k a1 a2 (decide (a2 > (a1.size : Int))) s0_0 s0_1)) = some (r1, r2, r3, r4) := h
 clear h
 have HC4 := Aside0.mk H
 clear H
 go_enter Try.func15, Try.ntmps15
 go_wp2
 apply wp_scope_straight
 go_upto_region 1 with (fail)
 go_cut [25] (fun v25 wc => ∃ (kq : Nat) (x25_3 : Bool), v25 = .bool x25_3 ∧ Aside0 (match_Prog_Find.j0 kq a1 a2 x25_3 s0_0 s0_1 = some (r1, r2, r3, r4)) ∧ Aside0 (kq ≤ k) ∧ Aside0 (IsS66 w0 wc g s0_0 s0_1) ∧ Aside0 (KeepBut w wc g none) ∧ Aside0 (Below w0.heap.size w0 wc))
 case first =>
  have H := HC4.out
  clear HC4
  by_cases c5 : a2 < 0
  ·rw [if_pos c5] at H
   have c5b0 : decide (a2 < 0) = true := decide_eq_true c5
   clear c5
   (first | rw [c5b0] | (simp only [i64_w, i32_w]; rw [c5b0]) | skip)
   have H' := Aside0.mk H
   clear H
   go_wp2
   go_meet
   case rel => exact ⟨_, (true), qg1, H', ⟨by first | omega | exact Nat.le_refl _⟩, ⟨by repeat (first | (with_reducible first | exact HI0.out | apply IsS66.alloc | apply IsS66.drewN | apply IsS66.drew | apply IsS66.set_1) | exact HI0.out)⟩, ⟨by repeat (first | (with_reducible first | exact HK.out | apply KeepBut.set_ | apply keep_drewN | apply keep_drew | apply keep_alloc) | exact HK.out)⟩, ⟨by repeat (first | (with_reducible first | exact HB.out | apply below_alloc | apply pw_below_drewN | apply below_drew1 | refine below_set ?_ (IsS66.ge HI0.out)) | exact HB.out)⟩⟩
  ·rw [if_neg c5] at H
   have c5b0 : decide (a2 < 0) = false := decide_eq_false c5
   clear c5
   (first | rw [c5b0] | (simp only [i64_w, i32_w]; rw [c5b0]) | skip)
   have H' := Aside0.mk H
   clear H
   go_wp2
   go_meet
   case rel => exact ⟨_, (decide (a2 > (a1.size : Int))), qg1, H', ⟨by first | omega | exact Nat.le_refl _⟩, ⟨by repeat (first | (with_reducible first | exact HI0.out | apply IsS66.alloc | apply IsS66.drewN | apply IsS66.drew | apply IsS66.set_1) | exact HI0.out)⟩, ⟨by repeat (first | (with_reducible first | exact HK.out | apply KeepBut.set_ | apply keep_drewN | apply keep_drew | apply keep_alloc) | exact HK.out)⟩, ⟨by repeat (first | (with_reducible first | exact HB.out | apply below_alloc | apply pw_below_drewN | apply below_drew1 | refine below_set ?_ (IsS66.ge HI0.out)) | exact HB.out)⟩⟩
 case rest =>
  clear HC4
  try clear c1
  try clear p2
  try clear c5
  try clear c5b0
  obtain ⟨kq, x25_3, rfl, HA, HJ3, HI0, HK, HB⟩ := hcut
  cases kq with
  | zero => exact absurd HA.out (by simp [match_Prog_Find.j0])
  | succ kj3 =>
   have H := HA.out
   clear HA
   simp only [match_Prog_Find.j0] at H
   by_cases c6 : x25_3 = true
   ·subst c6
    have H1 : (some (0, 0, false, s0_1)) = some (r1, r2, r3, r4) := by rw [if_pos rfl] at H; exact H
    clear H
    have H := H1
    clear H1
    simp only [Option.some.injEq, Prod.mk.injEq] at H
    obtain ⟨rfl, rfl, rfl, rfl⟩ := H
    go_wp2
    rw [Exit.noGoto_ret]
    go_ret3
    exact ⟨by first | rfl | (simp [errW_none, errW_some] <;> rfl) | (simp [errW_none, errW_some] <;> first | rfl | exact isEmpty_bne _) | (simp [*, errW_none, errW_some] <;> rfl), by repeat (first | (with_reducible first | exact HI0.out | apply IsS66.alloc | apply IsS66.drewN | apply IsS66.drew | apply IsS66.set_1) | exact HI0.out), by repeat (first | (with_reducible first | exact HB.out | apply below_alloc | apply pw_below_drewN | apply below_drew1 | refine below_set ?_ (IsS66.ge HI0.out)) | exact HB.out), by repeat (first | (with_reducible first | exact HK.out | apply KeepBut.set_ | apply keep_drewN | apply keep_drew | apply keep_alloc) | exact HK.out)⟩
   ·replace c6 := Bool.eq_false_iff.mpr c6
    subst c6
    have H1 : ((match_Prog_fresh.f kj3 s0_0 s0_1).bind fun bt392 => (match_Prog_Find.l0 kj3 a1 1099511627776 0 bt392.1 a2 s0_0 bt392.2)) = some (r1, r2, r3, r4) := by rw [if_neg (show ¬ (false = true) by decide)] at H; exact H
    clear H
    have H := H1
    clear H1
    replace H := Option.bind_eq_some_iff.mp H
    obtain ⟨⟨t392, t395⟩, A70, H⟩ := H
    replace H : (match_Prog_Find.l0 kj3 a1 1099511627776 0 t392 a2 s0_0 t395) = some (r1, r2, r3, r4) := H
    have A7 := Aside0.mk A70
    clear A70
    have H' := Aside0.mk H
    clear H
    go_wp2_with (first | ((with_reducible refine gate_callee (f := 23) rfl ?_); refine goesL_ (some 27) rfl rfl Try.func23 (by kernel_rfl) rfl #[.pointer (some ⟨g, 0, none⟩)] rfl qg2 ?_; (with_reducible refine (match_Prog_fresh.calls kj3 g s0_0 s0_1 t392 t395 w0 _ ?side1 ?side2 ?side3 A7.out).mono ?_); (case side1 => repeat (first | (with_reducible first | exact HI0.out | apply IsS66.alloc | apply IsS66.drewN | apply IsS66.drew | apply IsS66.set_1) | exact HI0.out)); (case side2 => repeat (first | (with_reducible first | exact HB.out | apply below_alloc | apply pw_below_drewN | apply below_drew1 | refine below_set ?_ (IsS66.ge HI0.out)) | exact HB.out)); (case side3 => exact hT); rintro e w8 ⟨v393, rfl, ho0, hi, hb, hk⟩; refine ⟨_, rfl, ?_⟩; have n0_ := Aside0.mk (Kd.R_lower ho0 (keep_size (w := w) (g := g) (row := none) qg0)); have n1_ := Aside0.mk (KeepBut.trans qg0 hk (.inl rfl)); have n2_ := Aside0.mk (hb); have n3_ := Aside0.mk (hi); clear HK; clear HB; clear HI0; have HO394 := n0_; have HK := n1_; have HB := n2_; have HI0 := n3_; clear n0_ n1_ n2_ n3_; (try clear hb); (try clear hb2); (try clear hk); (try clear hi); (try clear ho0)))
    apply wp_label
    go_wp2
    go_loopg [9, 10, 11, 12] kj3 (fun kq v9 v10 v11 v12 w' => ∃ (x9_2 : Int) (x10_2 : Int) (x11_2 : List Int) (x12_2 : Int) (x1001_2 : Int), v9 = .int .i64 x9_2 ∧ v10 = .int .i64 x10_2 ∧ v12 = .int .i64 x12_2 ∧ Aside0 (match_Prog_Find.l0 kq a1 x9_2 x10_2 x11_2 x12_2 s0_0 x1001_2 = some (r1, r2, r3, r4)) ∧ Aside0 (kq ≤ kj3) ∧ Aside0 (Kd.R (Kd.int .i64) 3 w' w.heap.size (fun _ => True) v11 x11_2) ∧ Aside0 (IsS66 w0 w' g s0_0 x1001_2) ∧ Aside0 (KeepBut w w' g none) ∧ Aside0 (Below w0.heap.size w0 w'))
    case atStart => exact ⟨(1099511627776), (0), (t392), (a2), (t395), qg1, qg1, qg1, H', ⟨Nat.le_refl _⟩, ⟨by (with_reducible repeat (first | apply Kd.R_alloc | apply Kd.R_drewN | apply Kd.R_drew)); exact HO394.out⟩, ⟨by repeat (first | (with_reducible first | exact HI0.out | apply IsS66.alloc | apply IsS66.drewN | apply IsS66.drew | apply IsS66.set_1) | exact HI0.out)⟩, ⟨by repeat (first | (with_reducible first | exact HK.out | apply KeepBut.set_ | apply keep_drewN | apply keep_drew | apply keep_alloc) | exact HK.out)⟩, ⟨by repeat (first | (with_reducible first | exact HB.out | apply below_alloc | apply pw_below_drewN | apply below_drew1 | refine below_set ?_ (IsS66.ge HI0.out)) | exact HB.out)⟩⟩
    case round =>
     clear H'
     try clear c1
     try clear c2
     try clear p2
     try clear c5
     try clear c5b0
     try clear c6
     try clear p6
     try clear p2
     obtain ⟨x9_2, x10_2, x11_2, x12_2, x1001_2, rfl, rfl, rfl, HA, HK2, HO_11, HI0, HK, HB⟩ := hrel
     cases gk with
     | zero => exact absurd HA.out (by simp [match_Prog_Find.l0])
     | succ k2 =>
      have H := HA.out
      clear HA
      simp only [match_Prog_Find.l0] at H
      have HC9 := Aside0.mk H
      clear H
      go_upto_if 32 with (fail)
      go_cut [] (fun wc => ∃ (kq : Nat) (x11_8 : List Int) (x1001_8 : Int), Aside0 (match_Prog_Find.j2 kq a1 x9_2 x10_2 x11_8 x12_2 s0_0 x1001_8 = some (r1, r2, r3, r4)) ∧ Aside0 (kq ≤ k2) ∧ Aside0 (Kd.R (Kd.int .i64) 3 wc w.heap.size (fun _ => True) u11 x11_8) ∧ Aside0 (IsS66 w0 wc g s0_0 x1001_8) ∧ Aside0 (KeepBut w wc g none) ∧ Aside0 (Below w0.heap.size w0 wc))
      case first =>
       have H := HC9.out
       clear HC9
       by_cases c10 : x9_2 = 1099511627776
       ·rw [if_pos c10] at H
        have c10b0 : (x9_2 == 1099511627776) = true := beq_iff_eq.mpr c10
        have c10b1 : (x9_2 != 1099511627776) = false := bne_eq_false_iff_eq.mpr c10
        clear c10
        (first | rw [c10b0] | (simp only [i64_w, i32_w]; rw [c10b0]) | skip)
        replace H := Option.bind_eq_some_iff.mp H
        obtain ⟨⟨t396, t397⟩, A110, H⟩ := H
        replace H : (match_Prog_Find.j2 k2 a1 x9_2 x10_2 t397 x12_2 s0_0 t396) = some (r1, r2, r3, r4) := H
        have A11 := Aside0.mk A110
        clear A110
        have H' := Aside0.mk H
        clear H
        obtain ⟨ASz12_0, cSz12_0, HGz12, hgz12, HSz12_0⟩ := HI0.out
        have hcz12_0 := cellS66_0 HGz12
        have hcz12_1 := cellS66_1 HGz12
        have hfz12_1 := blk_frozen HGz12 1
        clear HGz12 hgz12
        obtain ⟨Ao13, co13, eo13⟩ := Kd.R_slice HO_11.out
        subst eo13
        go_wp2_with (first | ((with_reducible refine gate_callee (f := 24) rfl ?_); refine goesL_ (some 46) rfl rfl Try.func24 (by kernel_rfl) rfl #[.pointer (some ⟨g, 0, none⟩), .slice Ao13 x11_2.length co13, .int .i64 x1001_2, .int .i64 x12_2, .bool (x12_2 == 0), .bool (x12_2 == (a1.size : Int))] rfl qg2 ?_; (with_reducible refine (match_Prog_close.calls k2 g s0_0 x1001_2 (fun k_ => some k_ = (.slice Ao13 x11_2.length co13 : Value).ownBlock) (.slice Ao13 x11_2.length co13) x11_2 x1001_2 x12_2 (x12_2 == 0) (x12_2 == (a1.size : Int)) t396 t397 w0 _ ?side1 ?side2 ?side3 ?side4 A11.out).mono ?_); (case side1 => repeat (first | (with_reducible first | exact HI0.out | apply IsS66.alloc | apply IsS66.drewN | apply IsS66.drew | apply IsS66.set_1) | exact HI0.out)); (case side2 => repeat (first | (with_reducible first | exact HB.out | apply below_alloc | apply pw_below_drewN | apply below_drew1 | refine below_set ?_ (IsS66.ge HI0.out)) | exact HB.out)); (case side3 => exact Kd.R_lower (Kd.R_tight rfl HO_11.out) HL.out); (case side4 => exact hT); rintro e w14 ⟨rfl, hi, hy0, hb, hkp⟩; refine ⟨_, rfl, ?_⟩; have n0_ := Aside0.mk (Kd.R_reok rfl (Kd.R_raise (d := (Kd.int .i64)) (b := w0.heap.size) (b' := w.heap.size) (fun _ _ _ _ h_ => h_) hy0 (fun k_ e_ => Or.elim (hy0.1 k_ e_) (fun hs_ => (fun e_ => Kd.R_base HO_11.out k_ e_.symm) hs_) (fun hn_ => Nat.le_trans (keep_size (w := w) (g := g) (row := none) qg0) hn_))) (fun k_ e_ => HO_11.out.1 k_ e_)); have n1_ := Aside0.mk (hi); have n2_ := Aside0.mk (Kept.keepG qg0 hkp (fun k_ hs_ => Or.elim hs_ (fun hs_ => (fun e_ => .inr (Kd.R_base HO_11.out k_ e_.symm)) hs_) (fun e_ => .inl e_))); have n3_ := Aside0.mk (hb); clear HO_11; clear HI0; clear HK; clear HB; have HO_11 := n0_; have HI0 := n1_; have HK := n2_; have HB := n3_; clear n0_ n1_ n2_ n3_; (try clear hb); (try clear hkp); (try clear hy0)))
        go_meet
        case rel => exact ⟨_, (t397), (t396), H', ⟨by have := HJ3.out; have := HK2.out; first | omega | exact Nat.le_refl _⟩, ⟨by (with_reducible repeat (first | apply Kd.R_alloc | apply Kd.R_drewN | apply Kd.R_drew)); exact HO_11.out⟩, ⟨by repeat (first | (with_reducible first | exact HI0.out | apply IsS66.alloc | apply IsS66.drewN | apply IsS66.drew | apply IsS66.set_1) | exact HI0.out)⟩, ⟨by repeat (first | (with_reducible first | exact HK.out | apply KeepBut.set_ | apply keep_drewN | apply keep_drew | apply keep_alloc) | exact HK.out)⟩, ⟨by repeat (first | (with_reducible first | exact HB.out | apply below_alloc | apply pw_below_drewN | apply below_drew1 | refine below_set ?_ (IsS66.ge HI0.out)) | exact HB.out)⟩⟩
       ·rw [if_neg c10] at H
        have c10b0 : (x9_2 == 1099511627776) = false := beq_eq_false_iff_ne.mpr c10
        have c10b1 : (x9_2 != 1099511627776) = true := bne_iff_ne.mpr c10
        (first | rw [c10b0] | (simp only [i64_w, i32_w]; rw [c10b0]) | skip)
        have H' := Aside0.mk H
        clear H
        go_wp2
        go_meet
        case rel => exact ⟨_, (x11_2), (x1001_2), H', ⟨by have := HJ3.out; have := HK2.out; first | omega | exact Nat.le_refl _⟩, ⟨by (with_reducible repeat (first | apply Kd.R_alloc | apply Kd.R_drewN | apply Kd.R_drew)); exact HO_11.out⟩, ⟨by repeat (first | (with_reducible first | exact HI0.out | apply IsS66.alloc | apply IsS66.drewN | apply IsS66.drew | apply IsS66.set_1) | exact HI0.out)⟩, ⟨by repeat (first | (with_reducible first | exact HK.out | apply KeepBut.set_ | apply keep_drewN | apply keep_drew | apply keep_alloc) | exact HK.out)⟩, ⟨by repeat (first | (with_reducible first | exact HB.out | apply below_alloc | apply pw_below_drewN | apply below_drew1 | refine below_set ?_ (IsS66.ge HI0.out)) | exact HB.out)⟩⟩
      case rest =>
       clear HC9
       try clear c1
       try clear c2
       try clear p2
       try clear c5
       try clear c5b0
       try clear c6
       try clear p6
       try clear c10
       try clear c10b0
       try clear c10b1
       try clear hcz12_0
       try clear hcz12_1
       try clear hfz12_1
       try clear p2
       try clear p6
       obtain ⟨kq, x11_8, x1001_8, HA, HJ8, HO_11, HI0, HK, HB⟩ := hcut
       cases kq with
       | zero => exact absurd HA.out (by simp [match_Prog_Find.j2])
       | succ kj8 =>
        have H := HA.out
        clear HA
        simp only [match_Prog_Find.j2] at H
        by_cases c15 : 0 < (x11_8.length : Int)
        ·rw [if_pos c15] at H
         have c15b0 : decide (0 < (x11_8.length : Int)) = true := decide_eq_true c15
         have c15b1 : decide (0 < x11_8.length) = true := decide_eq_true (by omega)
         clear c15
         have HC16 := Aside0.mk H
         clear H
         obtain ⟨Ao17, co17, eo17⟩ := Kd.R_slice HO_11.out
         subst eo17
         have p398 : 0 ≤ (0 : Int) := (by omega)
         have qg398 : 0 < (x11_8.length : Int) := of_decide_eq_true (by first | (with_reducible assumption) | assumption)
         obtain ⟨ad398, e398, hx398_0⟩ := Kd.at_int (Kd.R_reads' HO_11.out).2.2 0 p398 qg398
         cases e398
         have qi398 : (0 < x11_8.length) = True := eq_true (by omega)
         (try rw [show ((0 : Int)).toNat = 0 from rfl] at hx398_0)
         (try rw [Addr.add_zero'] at hx398_0)
         replace p398 := eq_true p398
         replace qg398 := eq_true qg398
         go_upto_if 51 with (fail)
         go_cut [9, 10] (fun v9 v10 wc => ∃ (kq : Nat) (x9_15 : Int) (x10_15 : Int), v9 = .int .i64 x9_15 ∧ v10 = .int .i64 x10_15 ∧ Aside0 (match_Prog_Find.j3 kq a1 x9_15 x10_15 x11_8 x12_2 s0_0 x1001_8 = some (r1, r2, r3, r4)) ∧ Aside0 (kq ≤ kj8) ∧ Aside0 (Kd.R (Kd.int .i64) 3 wc w.heap.size (fun _ => True) (.slice (some ad398) x11_8.length co17) x11_8) ∧ Aside0 (IsS66 w0 wc g s0_0 x1001_8) ∧ Aside0 (KeepBut w wc g none) ∧ Aside0 (Below w0.heap.size w0 wc))
         case first =>
          have H := HC16.out
          clear HC16
          by_cases c18 : (rd x11_8 0) ≤ x9_2
          ·rw [if_pos c18] at H
           have c18b0 : decide ((rd x11_8 0) ≤ x9_2) = true := decide_eq_true c18
           clear c18
           (first | rw [c18b0] | (simp only [i64_w, i32_w]; rw [c18b0]) | skip)
           have H' := Aside0.mk H
           clear H
           have p399 : 0 ≤ (0 : Int) := (by omega)
           have qg399 : 0 < (x11_8.length : Int) := of_decide_eq_true (by first | (with_reducible assumption) | assumption)
           obtain ⟨ad399, e399, hx399_0⟩ := Kd.at_int (Kd.R_reads' HO_11.out).2.2 0 p399 qg399
           obtain rfl : ad398 = ad399 := (by injection e399)
           have qi399 : (0 < x11_8.length) = True := eq_true (by omega)
           (try rw [show ((0 : Int)).toNat = 0 from rfl] at hx399_0)
           (try rw [Addr.add_zero'] at hx399_0)
           replace p399 := eq_true p399
           replace qg399 := eq_true qg399
           go_wp2
           go_meet
           case rel => exact ⟨_, (rd x11_8 0), (x12_2), qg1, qg1, H', ⟨by have := HJ3.out; have := HK2.out; have := HJ8.out; first | omega | exact Nat.le_refl _⟩, ⟨by (with_reducible repeat (first | apply Kd.R_alloc | apply Kd.R_drewN | apply Kd.R_drew)); exact HO_11.out⟩, ⟨by repeat (first | (with_reducible first | exact HI0.out | apply IsS66.alloc | apply IsS66.drewN | apply IsS66.drew | apply IsS66.set_1) | exact HI0.out)⟩, ⟨by repeat (first | (with_reducible first | exact HK.out | apply KeepBut.set_ | apply keep_drewN | apply keep_drew | apply keep_alloc) | exact HK.out)⟩, ⟨by repeat (first | (with_reducible first | exact HB.out | apply below_alloc | apply pw_below_drewN | apply below_drew1 | refine below_set ?_ (IsS66.ge HI0.out)) | exact HB.out)⟩⟩
          ·rw [if_neg c18] at H
           have c18b0 : decide ((rd x11_8 0) ≤ x9_2) = false := decide_eq_false c18
           clear c18
           (first | rw [c18b0] | (simp only [i64_w, i32_w]; rw [c18b0]) | skip)
           have H' := Aside0.mk H
           clear H
           go_wp2
           go_meet
           case rel => exact ⟨_, (x9_2), (x10_2), qg1, qg1, H', ⟨by have := HJ3.out; have := HK2.out; have := HJ8.out; first | omega | exact Nat.le_refl _⟩, ⟨by (with_reducible repeat (first | apply Kd.R_alloc | apply Kd.R_drewN | apply Kd.R_drew)); exact HO_11.out⟩, ⟨by repeat (first | (with_reducible first | exact HI0.out | apply IsS66.alloc | apply IsS66.drewN | apply IsS66.drew | apply IsS66.set_1) | exact HI0.out)⟩, ⟨by repeat (first | (with_reducible first | exact HK.out | apply KeepBut.set_ | apply keep_drewN | apply keep_drew | apply keep_alloc) | exact HK.out)⟩, ⟨by repeat (first | (with_reducible first | exact HB.out | apply below_alloc | apply pw_below_drewN | apply below_drew1 | refine below_set ?_ (IsS66.ge HI0.out)) | exact HB.out)⟩⟩
         case rest =>
          clear HC16
          try clear c1
          try clear c2
          try clear p2
          try clear p3
          try clear qg3
          try clear hx3
          try clear qi3
          try clear c5
          try clear c5b0
          try clear c6
          try clear p6
          try clear c10
          try clear c10b0
          try clear c10b1
          try clear c15
          try clear c15b0
          try clear c15b1
          try clear c18
          try clear c18b0
          try clear hcz12_0
          try clear hcz12_1
          try clear hfz12_1
          try clear hx398_0
          try clear hx399_0
          try clear p2
          try clear p398
          try clear p399
          try clear p6
          try clear qg398
          try clear qg399
          obtain ⟨kq, x9_15, x10_15, rfl, rfl, HA, HJ15, HO_11, HI0, HK, HB⟩ := hcut
          cases kq with
          | zero => exact absurd HA.out (by simp [match_Prog_Find.j3])
          | succ kj15 =>
           have H := HA.out
           clear HA
           simp only [match_Prog_Find.j3] at H
           by_cases c19 : x12_2 = (a1.size : Int)
           ·rw [if_pos c19] at H
            have c19b0 : (x12_2 == (a1.size : Int)) = true := beq_iff_eq.mpr c19
            have c19b1 : (x12_2 != (a1.size : Int)) = false := bne_eq_false_iff_eq.mpr c19
            clear c19
            by_cases c20 : x9_15 = 1099511627776
            ·rw [if_pos c20] at H
             have c20b0 : (x9_15 == 1099511627776) = true := beq_iff_eq.mpr c20
             have c20b1 : (x9_15 != 1099511627776) = false := bne_eq_false_iff_eq.mpr c20
             clear c20
             simp only [Option.some.injEq, Prod.mk.injEq] at H
             obtain ⟨rfl, rfl, rfl, rfl⟩ := H
             go_wp2
             rw [Exit.noGoto_ret]
             go_ret3
             exact ⟨by first | rfl | (simp [errW_none, errW_some] <;> rfl) | (simp [errW_none, errW_some] <;> first | rfl | exact isEmpty_bne _) | (simp [*, errW_none, errW_some] <;> rfl), by repeat (first | (with_reducible first | exact HI0.out | apply IsS66.alloc | apply IsS66.drewN | apply IsS66.drew | apply IsS66.set_1) | exact HI0.out), by repeat (first | (with_reducible first | exact HB.out | apply below_alloc | apply pw_below_drewN | apply below_drew1 | refine below_set ?_ (IsS66.ge HI0.out)) | exact HB.out), by repeat (first | (with_reducible first | exact HK.out | apply KeepBut.set_ | apply keep_drewN | apply keep_drew | apply keep_alloc) | exact HK.out)⟩
            ·rw [if_neg c20] at H
             have c20b0 : (x9_15 == 1099511627776) = false := beq_eq_false_iff_ne.mpr c20
             have c20b1 : (x9_15 != 1099511627776) = true := bne_iff_ne.mpr c20
             simp only [Option.some.injEq, Prod.mk.injEq] at H
             obtain ⟨rfl, rfl, rfl, rfl⟩ := H
             go_wp2
             rw [Exit.noGoto_ret]
             go_ret3
             exact ⟨by first | rfl | (simp [errW_none, errW_some] <;> rfl) | (simp [errW_none, errW_some] <;> first | rfl | exact isEmpty_bne _) | (simp [*, errW_none, errW_some] <;> rfl), by repeat (first | (with_reducible first | exact HI0.out | apply IsS66.alloc | apply IsS66.drewN | apply IsS66.drew | apply IsS66.set_1) | exact HI0.out), by repeat (first | (with_reducible first | exact HB.out | apply below_alloc | apply pw_below_drewN | apply below_drew1 | refine below_set ?_ (IsS66.ge HI0.out)) | exact HB.out), by repeat (first | (with_reducible first | exact HK.out | apply KeepBut.set_ | apply keep_drewN | apply keep_drew | apply keep_alloc) | exact HK.out)⟩
           ·rw [if_neg c19] at H
            have c19b0 : (x12_2 == (a1.size : Int)) = false := beq_eq_false_iff_ne.mpr c19
            have c19b1 : (x12_2 != (a1.size : Int)) = true := bne_iff_ne.mpr c19
            replace H := Option.bind_eq_some_iff.mp H
            obtain ⟨⟨t400, t403⟩, A210, H⟩ := H
            replace H : (match_Prog_Find.l1 kj15 a1 x9_15 x10_15 x12_2 t400 (x9_15 == 1099511627776) x11_8 (x11_8.length : Int) 0 s0_0 t403) = some (r1, r2, r3, r4) := H
            have A21 := Aside0.mk A210
            clear A210
            have H' := Aside0.mk H
            clear H
            go_wp2_with (first | ((with_reducible refine gate_callee (f := 23) rfl ?_); refine goesL_ (some 61) rfl rfl Try.func23 (by kernel_rfl) rfl #[.pointer (some ⟨g, 0, none⟩)] rfl qg2 ?_; (with_reducible refine (match_Prog_fresh.calls kj15 g s0_0 x1001_8 t400 t403 w0 _ ?side1 ?side2 ?side3 A21.out).mono ?_); (case side1 => repeat (first | (with_reducible first | exact HI0.out | apply IsS66.alloc | apply IsS66.drewN | apply IsS66.drew | apply IsS66.set_1) | exact HI0.out)); (case side2 => repeat (first | (with_reducible first | exact HB.out | apply below_alloc | apply pw_below_drewN | apply below_drew1 | refine below_set ?_ (IsS66.ge HI0.out)) | exact HB.out)); (case side3 => exact hT); rintro e w22 ⟨v401, rfl, ho0, hi, hb, hk⟩; refine ⟨_, rfl, ?_⟩; have n0_ := Aside0.mk (Kd.R_mono (Kd.R_told (Kd.R_oldK (IsS66.apart (show IsS66 w0 _ g s0_0 x1001_8 from by repeat (first | (with_reducible first | exact HI0.out | apply IsS66.alloc | apply IsS66.drewN | apply IsS66.drew | apply IsS66.set_1) | exact HI0.out)) (by (with_reducible repeat (first | apply Kd.R_alloc | apply Kd.R_drewN | apply Kd.R_drew)); exact HO_11.out) (by decide)) hk) (Kd.R_base ho0)) (fun _ h_ => h_.1)); have n1_ := Aside0.mk (Kd.R_lower (Kd.R_new' ho0 (Kd.R_lt (by (with_reducible repeat (first | apply Kd.R_alloc | apply Kd.R_drewN | apply Kd.R_drew)); exact HO_11.out))) (keep_size (w := w) (g := g) (row := none) qg0)); have n2_ := Aside0.mk (KeepBut.trans qg0 hk (.inl rfl)); have n3_ := Aside0.mk (hb); have n4_ := Aside0.mk (hi); clear HO_11; clear HK; clear HB; clear HI0; have HO_11 := n0_; have HO402 := n1_; have HK := n2_; have HB := n3_; have HI0 := n4_; clear n0_ n1_ n2_ n3_ n4_; (try clear hb); (try clear hb2); (try clear hk); (try clear hi); (try clear ho0)))
            go_loopg [14, 66] kj15 (fun kq v14 v66 w' => ∃ (x13_5 : List Int) (x14_5 : Bool) (x66_5 : Int) (x1001_5 : Int), v14 = .bool x14_5 ∧ v66 = .int .i64 x66_5 ∧ Aside0 (match_Prog_Find.l1 kq a1 x9_15 x10_15 x12_2 x13_5 x14_5 x11_8 (x11_8.length : Int) x66_5 s0_0 x1001_5 = some (r1, r2, r3, r4)) ∧ Aside0 (kq ≤ kj15) ∧ Aside0 (Kd.R (Kd.int .i64) 3 w' w.heap.size (fun k_ => some k_ ≠ ((.slice (some ad398) x11_8.length co17) : Value).ownBlock) v401 x13_5) ∧ Aside0 (Kd.R (Kd.int .i64) 3 w' w.heap.size (fun k_ => some k_ ≠ (v401 : Value).ownBlock) (.slice (some ad398) x11_8.length co17) x11_8) ∧ Aside0 (IsS66 w0 w' g s0_0 x1001_5) ∧ Aside0 (KeepBut w w' g none) ∧ Aside0 (Below w0.heap.size w0 w'))
            case atStart => exact ⟨(t400), ((x9_15 == 1099511627776)), (0), (t403), qg1, qg1, H', ⟨Nat.le_refl _⟩, ⟨by (with_reducible repeat (first | apply Kd.R_alloc | apply Kd.R_drewN | apply Kd.R_drew)); exact Kd.R_mono HO402.out (fun _ hk => hk.2)⟩, ⟨by (with_reducible repeat (first | apply Kd.R_alloc | apply Kd.R_drewN | apply Kd.R_drew)); exact Kd.R_mono HO_11.out (fun _ hk => hk.2)⟩, ⟨by repeat (first | (with_reducible first | exact HI0.out | apply IsS66.alloc | apply IsS66.drewN | apply IsS66.drew | apply IsS66.set_1) | exact HI0.out)⟩, ⟨by repeat (first | (with_reducible first | exact HK.out | apply KeepBut.set_ | apply keep_drewN | apply keep_drew | apply keep_alloc) | exact HK.out)⟩, ⟨by repeat (first | (with_reducible first | exact HB.out | apply below_alloc | apply pw_below_drewN | apply below_drew1 | refine below_set ?_ (IsS66.ge HI0.out)) | exact HB.out)⟩⟩
            case round =>
             clear H'
             try clear c1
             try clear c2
             try clear p2
             try clear p3
             try clear qg3
             try clear hx3
             try clear qi3
             try clear c5
             try clear c5b0
             try clear c6
             try clear p6
             try clear c10
             try clear c10b0
             try clear c10b1
             try clear c15
             try clear c15b0
             try clear c15b1
             try clear c18
             try clear c18b0
             try clear c19
             try clear c19b0
             try clear c19b1
             try clear c20
             try clear c20b0
             try clear c20b1
             try clear hcz12_0
             try clear hcz12_1
             try clear hfz12_1
             try clear hx398_0
             try clear hx399_0
             try clear p2
             try clear p3
             try clear p398
             try clear p399
             try clear p6
             try clear qg3
             try clear qg398
             try clear qg399
             obtain ⟨x13_5, x14_5, x66_5, x1001_5, rfl, rfl, HA, HK5, HO_13, HO_64, HI0, HK, HB⟩ := hrel
             cases gk with
             | zero => exact absurd HA.out (by simp [match_Prog_Find.l1])
             | succ k5 =>
              have H := HA.out
              clear HA
              simp only [match_Prog_Find.l1] at H
              by_cases c23 : x66_5 < (x11_8.length : Int)
              ·rw [if_pos c23] at H
               have c23b0 : decide (x66_5 < (x11_8.length : Int)) = true := decide_eq_true c23
               clear c23
               by_cases c24 : 0 ≤ x66_5
               ·rw [if_pos c24] at H
                have c24b0 : decide (0 ≤ x66_5) = true := decide_eq_true c24
                clear c24
                by_cases c25 : x66_5 < (x11_8.length : Int)
                ·rw [if_pos c25] at H
                 have c25b0 : decide (x66_5 < (x11_8.length : Int)) = true := decide_eq_true c25
                 clear c25
                 by_cases c26 : x66_5 < (s0_0.length : Int)
                 ·rw [if_pos c26] at H
                  have c26b0 : decide (x66_5 < (s0_0.length : Int)) = true := decide_eq_true c26
                  clear c26
                  by_cases c27 : (rd x11_8 x66_5) ≤ x9_15
                  ·rw [if_pos c27] at H
                   have c27b0 : decide ((rd x11_8 x66_5) ≤ x9_15) = true := decide_eq_true c27
                   clear c27
                   by_cases c28 : (rd x11_8 x66_5) < 1099511627776
                   ·rw [if_pos c28] at H
                    have c28b0 : decide ((rd x11_8 x66_5) < 1099511627776) = true := decide_eq_true c28
                    clear c28
                    by_cases c29 : ((rd_T68 s0_0 x66_5).f0) = 0
                    ·rw [if_pos c29] at H
                     have c29b0 : (((rd_T68 s0_0 x66_5).f0) == 0) = true := beq_iff_eq.mpr c29
                     have c29b1 : (((rd_T68 s0_0 x66_5).f0) != 0) = false := bne_eq_false_iff_eq.mpr c29
                     clear c29
                     by_cases c30 : 0 ≤ x12_2
                     ·rw [if_pos c30] at H
                      have c30b0 : decide (0 ≤ x12_2) = true := decide_eq_true c30
                      clear c30
                      by_cases c31 : x12_2 < (a1.size : Int)
                      ·rw [if_pos c31] at H
                       have c31b0 : decide (x12_2 < (a1.size : Int)) = true := decide_eq_true c31
                       clear c31
                       replace H := Option.bind_eq_some_iff.mp H
                       obtain ⟨t407, A330, H⟩ := H
                       replace H : (if t407 = true then ((match_Prog_close.f k5 s0_0 x1001_5 x13_5 ((rd_T68 s0_0 x66_5).f2) (rd x11_8 x66_5) false ((wrap64 (x12_2 + 1)) == (a1.size : Int))).bind fun bt408 => (match_Prog_Find.l1 k5 a1 x9_15 x10_15 x12_2 bt408.2 true x11_8 (x11_8.length : Int) (wrap64 (x66_5 + 1)) s0_0 bt408.1)) else (match_Prog_Find.l1 k5 a1 x9_15 x10_15 x12_2 x13_5 x14_5 x11_8 (x11_8.length : Int) (wrap64 (x66_5 + 1)) s0_0 x1001_5)) = some (r1, r2, r3, r4) := H
                       have A33 := Aside0.mk A330
                       clear A330
                       by_cases c34 : t407 = true
                       ·subst c34
                        have H1 : ((match_Prog_close.f k5 s0_0 x1001_5 x13_5 ((rd_T68 s0_0 x66_5).f2) (rd x11_8 x66_5) false ((wrap64 (x12_2 + 1)) == (a1.size : Int))).bind fun bt408 => (match_Prog_Find.l1 k5 a1 x9_15 x10_15 x12_2 bt408.2 true x11_8 (x11_8.length : Int) (wrap64 (x66_5 + 1)) s0_0 bt408.1)) = some (r1, r2, r3, r4) := by rw [if_pos rfl] at H; exact H
                        clear H
                        have H := H1
                        clear H1
                        replace H := Option.bind_eq_some_iff.mp H
                        obtain ⟨⟨t408, t409⟩, A350, H⟩ := H
                        replace H : (match_Prog_Find.l1 k5 a1 x9_15 x10_15 x12_2 t409 true x11_8 (x11_8.length : Int) (wrap64 (x66_5 + 1)) s0_0 t408) = some (r1, r2, r3, r4) := H
                        have A35 := Aside0.mk A350
                        clear A350
                        have H' := Aside0.mk H
                        clear H
                        have p404 : 0 ≤ (x66_5 : Int) := of_decide_eq_true (by first | (with_reducible assumption) | assumption)
                        have qg404 : x66_5 < (x11_8.length : Int) := of_decide_eq_true (by first | (with_reducible assumption) | assumption)
                        obtain ⟨ad404, e404, hx404_0⟩ := Kd.at_int (Kd.R_reads' HO_64.out).2.2 x66_5 p404 qg404
                        obtain rfl : ad398 = ad404 := (by injection e404)
                        replace p404 := eq_true p404
                        replace qg404 := eq_true qg404
                        obtain ⟨ASz36_0, cSz36_0, HGz36, hgz36, HSz36_0⟩ := HI0.out
                        have hcz36_0 := cellS66_0 HGz36
                        have hcz36_1 := cellS66_1 HGz36
                        have hfz36_1 := blk_frozen HGz36 1
                        clear HGz36 hgz36
                        have p405 : 0 ≤ (x66_5 : Int) := of_decide_eq_true (by first | (with_reducible assumption) | assumption)
                        have qg405 : x66_5 < (s0_0.length : Int) := of_decide_eq_true (by first | (with_reducible assumption) | assumption)
                        obtain ⟨ad405, e405, hx405_0, hx405_1, hx405_2, hx405_3, hx405_4, hx405_5, hx405_6⟩ := at_T68 HSz36_0 x66_5 p405 qg405
                        cases e405
                        replace hx405_0 := pw_cell_below HB.out hx405_0
                        replace hx405_1 := pw_cell_below HB.out hx405_1
                        replace hx405_2 := pw_cell_below HB.out hx405_2
                        replace hx405_3 := pw_cell_below HB.out hx405_3
                        replace hx405_4 := pw_cell_below HB.out hx405_4
                        replace hx405_5 := pw_cell_below HB.out hx405_5
                        replace hx405_6 := pw_cell_below HB.out hx405_6
                        replace p405 := eq_true p405
                        replace qg405 := eq_true qg405
                        try go_wp2_with (first | ((with_reducible refine gate_dst (N := 17) rfl ?_); (try (refine gate_guard (by rfl) ?_; dsimp only)); refine box_event ?hg (N := 17) ?hd (cs := #[.int .i64 0, .int .u64 0, .int .u64 0, .int .u64 0, .int .u64 0, .int .i64 0, .int .i64 0]) (t := 68) ?hr ?_; (case hd => rfl); (case hg => rfl); (case hr => first | (go_simp; done) | (go_simp; rfl)); intro gb406 hg w37 hbox hb; have n0_ := Aside0.mk (Kd.R_below qg4 hb); have n1_ := Aside0.mk (Kd.R_below qg5 hb); have n2_ := Aside0.mk (IsS66.below qg7 hb); have n3_ := Aside0.mk (KeepBut.trans qg0 (KeepBut.of_below hb g none) (.inl rfl)); have n4_ := Aside0.mk (below_step qg3 hb); have n5_ := Aside0.mk (hbox); have n6_ := Aside0.mk ((by rw [hg]; exact (keep_size (w := w) (g := g) (row := none) qg0) : w.heap.size ≤ gb406)); have n7_ := Aside0.mk ((Nat.le_trans HW0.out (by rw [hg]; exact (keep_size (w := w) (g := g) (row := none) qg0) : w.heap.size ≤ gb406) : w0.heap.size ≤ gb406)); have n8_ := Aside0.mk ((by rw [hg]; exact Nat.ne_of_lt (IsS66.lt (show IsS66 w0 _ g s0_0 x1001_5 from by repeat (first | (with_reducible first | exact HI0.out | apply IsS66.alloc | apply IsS66.drewN | apply IsS66.drew | apply IsS66.set_1) | exact HI0.out))) : g ≠ gb406)); have n9_ := Aside0.mk ((by rw [hg]; exact Nat.ne_of_gt (IsS66.lt (show IsS66 w0 _ g s0_0 x1001_5 from by repeat (first | (with_reducible first | exact HI0.out | apply IsS66.alloc | apply IsS66.drewN | apply IsS66.drew | apply IsS66.set_1) | exact HI0.out))) : gb406 ≠ g)); clear HO_13; clear HO_64; clear HI0; clear HK; clear HB; have HO_13 := n0_; have HO_64 := n1_; have HI0 := n2_; have HK := n3_; have HB := n4_; have BK406 := n5_; have GW406 := n6_; have GE406 := n7_; have NB0_406 := n8_; have NB406_0 := n9_; clear n0_ n1_ n2_ n3_ n4_ n5_ n6_ n7_ n8_ n9_; clear hb hbox hg; have hnb38 := NB406_0.out; have hnc38 := NB0_406.out; have hcz39_0 : w37.cell? ⟨gb406, 0, none⟩ = some (.int .i64 0) := (blk_cell BK406.out 0).trans rfl; have hcz39_1 : w37.cell? ⟨gb406, 1, none⟩ = some (.int .u64 0) := (blk_cell BK406.out 1).trans rfl; have hcz39_2 : w37.cell? ⟨gb406, 2, none⟩ = some (.int .u64 0) := (blk_cell BK406.out 2).trans rfl; have hcz39_3 : w37.cell? ⟨gb406, 3, none⟩ = some (.int .u64 0) := (blk_cell BK406.out 3).trans rfl; have hcz39_4 : w37.cell? ⟨gb406, 4, none⟩ = some (.int .u64 0) := (blk_cell BK406.out 4).trans rfl; have hcz39_5 : w37.cell? ⟨gb406, 5, none⟩ = some (.int .i64 0) := (blk_cell BK406.out 5).trans rfl; have hcz39_6 : w37.cell? ⟨gb406, 6, none⟩ = some (.int .i64 0) := (blk_cell BK406.out 6).trans rfl; have hfz39_0 := blk_frozen BK406.out 0; have hfz39_1 := blk_frozen BK406.out 1; have hfz39_2 := blk_frozen BK406.out 2; have hfz39_3 := blk_frozen BK406.out 3; have hfz39_4 := blk_frozen BK406.out 4; have hfz39_5 := blk_frozen BK406.out 5; have hfz39_6 := blk_frozen BK406.out 6))
                        have n0_ : Aside0 (Kd.R (Kd.int .i64) 3 (((((((w37.setCell ⟨gb406, 0, none⟩ (.int .i64 ((rd_T68 s0_0 x66_5).f0))).setCell ⟨gb406, 1, none⟩ (.int .u64 ((rd_T68 s0_0 x66_5).f1.f0))).setCell ⟨gb406, 2, none⟩ (.int .u64 ((rd_T68 s0_0 x66_5).f1.f1))).setCell ⟨gb406, 3, none⟩ (.int .u64 ((rd_T68 s0_0 x66_5).f1.f2))).setCell ⟨gb406, 4, none⟩ (.int .u64 ((rd_T68 s0_0 x66_5).f1.f3))).setCell ⟨gb406, 5, none⟩ (.int .i64 ((rd_T68 s0_0 x66_5).f2))).setCell ⟨gb406, 6, none⟩ (.int .i64 ((rd_T68 s0_0 x66_5).f3))) w.heap.size (fun k_ => some k_ ≠ (.slice (some ad398) x11_8.length co17 : Value).ownBlock) v401 x13_5) := ⟨by (with_reducible repeat (first | apply Kd.R_alloc | apply Kd.R_drewN | apply Kd.R_drew)); exact Kd.R_mono (Kd.R_far (p := ⟨gb406, 6, none⟩) (Kd.R_far (p := ⟨gb406, 5, none⟩) (Kd.R_far (p := ⟨gb406, 4, none⟩) (Kd.R_far (p := ⟨gb406, 3, none⟩) (Kd.R_far (p := ⟨gb406, 2, none⟩) (Kd.R_far (p := ⟨gb406, 1, none⟩) (Kd.R_far (p := ⟨gb406, 0, none⟩) (Kd.R_types HO_13.out BK406.out (by decide)) (fun _ hk => hk.2) (.int .i64 ((rd_T68 s0_0 x66_5).f0))) (fun _ hk => hk.2) (.int .u64 ((rd_T68 s0_0 x66_5).f1.f0))) (fun _ hk => hk.2) (.int .u64 ((rd_T68 s0_0 x66_5).f1.f1))) (fun _ hk => hk.2) (.int .u64 ((rd_T68 s0_0 x66_5).f1.f2))) (fun _ hk => hk.2) (.int .u64 ((rd_T68 s0_0 x66_5).f1.f3))) (fun _ hk => hk.2) (.int .i64 ((rd_T68 s0_0 x66_5).f2))) (fun _ hk => hk.2) (.int .i64 ((rd_T68 s0_0 x66_5).f3))) (fun _ hk => hk.1)⟩
                        have n1_ : Aside0 (Kd.R (Kd.int .i64) 3 (((((((w37.setCell ⟨gb406, 0, none⟩ (.int .i64 ((rd_T68 s0_0 x66_5).f0))).setCell ⟨gb406, 1, none⟩ (.int .u64 ((rd_T68 s0_0 x66_5).f1.f0))).setCell ⟨gb406, 2, none⟩ (.int .u64 ((rd_T68 s0_0 x66_5).f1.f1))).setCell ⟨gb406, 3, none⟩ (.int .u64 ((rd_T68 s0_0 x66_5).f1.f2))).setCell ⟨gb406, 4, none⟩ (.int .u64 ((rd_T68 s0_0 x66_5).f1.f3))).setCell ⟨gb406, 5, none⟩ (.int .i64 ((rd_T68 s0_0 x66_5).f2))).setCell ⟨gb406, 6, none⟩ (.int .i64 ((rd_T68 s0_0 x66_5).f3))) w.heap.size (fun k_ => some k_ ≠ (v401 : Value).ownBlock) (.slice (some ad398) x11_8.length co17) x11_8) := ⟨by (with_reducible repeat (first | apply Kd.R_alloc | apply Kd.R_drewN | apply Kd.R_drew)); exact Kd.R_mono (Kd.R_far (p := ⟨gb406, 6, none⟩) (Kd.R_far (p := ⟨gb406, 5, none⟩) (Kd.R_far (p := ⟨gb406, 4, none⟩) (Kd.R_far (p := ⟨gb406, 3, none⟩) (Kd.R_far (p := ⟨gb406, 2, none⟩) (Kd.R_far (p := ⟨gb406, 1, none⟩) (Kd.R_far (p := ⟨gb406, 0, none⟩) (Kd.R_types HO_64.out BK406.out (by decide)) (fun _ hk => hk.2) (.int .i64 ((rd_T68 s0_0 x66_5).f0))) (fun _ hk => hk.2) (.int .u64 ((rd_T68 s0_0 x66_5).f1.f0))) (fun _ hk => hk.2) (.int .u64 ((rd_T68 s0_0 x66_5).f1.f1))) (fun _ hk => hk.2) (.int .u64 ((rd_T68 s0_0 x66_5).f1.f2))) (fun _ hk => hk.2) (.int .u64 ((rd_T68 s0_0 x66_5).f1.f3))) (fun _ hk => hk.2) (.int .i64 ((rd_T68 s0_0 x66_5).f2))) (fun _ hk => hk.2) (.int .i64 ((rd_T68 s0_0 x66_5).f3))) (fun _ hk => hk.1)⟩
                        have n2_ : Aside0 ((((((((w37.setCell ⟨gb406, 0, none⟩ (.int .i64 ((rd_T68 s0_0 x66_5).f0))).setCell ⟨gb406, 1, none⟩ (.int .u64 ((rd_T68 s0_0 x66_5).f1.f0))).setCell ⟨gb406, 2, none⟩ (.int .u64 ((rd_T68 s0_0 x66_5).f1.f1))).setCell ⟨gb406, 3, none⟩ (.int .u64 ((rd_T68 s0_0 x66_5).f1.f2))).setCell ⟨gb406, 4, none⟩ (.int .u64 ((rd_T68 s0_0 x66_5).f1.f3))).setCell ⟨gb406, 5, none⟩ (.int .i64 ((rd_T68 s0_0 x66_5).f2))).setCell ⟨gb406, 6, none⟩ (.int .i64 ((rd_T68 s0_0 x66_5).f3))).heap[gb406]? = some (.cells #[.int .i64 ((rd_T68 s0_0 x66_5).f0), .int .u64 ((rd_T68 s0_0 x66_5).f1.f0), .int .u64 ((rd_T68 s0_0 x66_5).f1.f1), .int .u64 ((rd_T68 s0_0 x66_5).f1.f2), .int .u64 ((rd_T68 s0_0 x66_5).f1.f3), .int .i64 ((rd_T68 s0_0 x66_5).f2), .int .i64 ((rd_T68 s0_0 x66_5).f3)] 68 (0, 0))) := ⟨by (with_reducible repeat (first | refine blk_drewN ?_ _ | refine blk_drew ?_ | refine blk_alloc ?_ _)); refine blk_put (cs := #[.int .i64 ((rd_T68 s0_0 x66_5).f0), .int .u64 ((rd_T68 s0_0 x66_5).f1.f0), .int .u64 ((rd_T68 s0_0 x66_5).f1.f1), .int .u64 ((rd_T68 s0_0 x66_5).f1.f2), .int .u64 ((rd_T68 s0_0 x66_5).f1.f3), .int .i64 ((rd_T68 s0_0 x66_5).f2), .int .i64 0]) ?_ 6 _ rfl; (with_reducible repeat (first | refine blk_drewN ?_ _ | refine blk_drew ?_ | refine blk_alloc ?_ _)); refine blk_put (cs := #[.int .i64 ((rd_T68 s0_0 x66_5).f0), .int .u64 ((rd_T68 s0_0 x66_5).f1.f0), .int .u64 ((rd_T68 s0_0 x66_5).f1.f1), .int .u64 ((rd_T68 s0_0 x66_5).f1.f2), .int .u64 ((rd_T68 s0_0 x66_5).f1.f3), .int .i64 0, .int .i64 0]) ?_ 5 _ rfl; (with_reducible repeat (first | refine blk_drewN ?_ _ | refine blk_drew ?_ | refine blk_alloc ?_ _)); refine blk_put (cs := #[.int .i64 ((rd_T68 s0_0 x66_5).f0), .int .u64 ((rd_T68 s0_0 x66_5).f1.f0), .int .u64 ((rd_T68 s0_0 x66_5).f1.f1), .int .u64 ((rd_T68 s0_0 x66_5).f1.f2), .int .u64 0, .int .i64 0, .int .i64 0]) ?_ 4 _ rfl; (with_reducible repeat (first | refine blk_drewN ?_ _ | refine blk_drew ?_ | refine blk_alloc ?_ _)); refine blk_put (cs := #[.int .i64 ((rd_T68 s0_0 x66_5).f0), .int .u64 ((rd_T68 s0_0 x66_5).f1.f0), .int .u64 ((rd_T68 s0_0 x66_5).f1.f1), .int .u64 0, .int .u64 0, .int .i64 0, .int .i64 0]) ?_ 3 _ rfl; (with_reducible repeat (first | refine blk_drewN ?_ _ | refine blk_drew ?_ | refine blk_alloc ?_ _)); refine blk_put (cs := #[.int .i64 ((rd_T68 s0_0 x66_5).f0), .int .u64 ((rd_T68 s0_0 x66_5).f1.f0), .int .u64 0, .int .u64 0, .int .u64 0, .int .i64 0, .int .i64 0]) ?_ 2 _ rfl; (with_reducible repeat (first | refine blk_drewN ?_ _ | refine blk_drew ?_ | refine blk_alloc ?_ _)); refine blk_put (cs := #[.int .i64 ((rd_T68 s0_0 x66_5).f0), .int .u64 0, .int .u64 0, .int .u64 0, .int .u64 0, .int .i64 0, .int .i64 0]) ?_ 1 _ rfl; (with_reducible repeat (first | refine blk_drewN ?_ _ | refine blk_drew ?_ | refine blk_alloc ?_ _)); refine blk_put (cs := #[.int .i64 0, .int .u64 0, .int .u64 0, .int .u64 0, .int .u64 0, .int .i64 0, .int .i64 0]) ?_ 0 _ rfl; (with_reducible repeat (first | refine blk_drewN ?_ _ | refine blk_drew ?_ | refine blk_alloc ?_ _)); exact BK406.out⟩
                        have n3_ : Aside0 (IsS66 w0 (((((((w37.setCell ⟨gb406, 0, none⟩ (.int .i64 ((rd_T68 s0_0 x66_5).f0))).setCell ⟨gb406, 1, none⟩ (.int .u64 ((rd_T68 s0_0 x66_5).f1.f0))).setCell ⟨gb406, 2, none⟩ (.int .u64 ((rd_T68 s0_0 x66_5).f1.f1))).setCell ⟨gb406, 3, none⟩ (.int .u64 ((rd_T68 s0_0 x66_5).f1.f2))).setCell ⟨gb406, 4, none⟩ (.int .u64 ((rd_T68 s0_0 x66_5).f1.f3))).setCell ⟨gb406, 5, none⟩ (.int .i64 ((rd_T68 s0_0 x66_5).f2))).setCell ⟨gb406, 6, none⟩ (.int .i64 ((rd_T68 s0_0 x66_5).f3))) g s0_0 x1001_5) := ⟨by repeat (first | (with_reducible first | exact HI0.out | apply IsS66.alloc | apply IsS66.drewN | apply IsS66.drew | apply IsS66.set_1 | apply IsS66.far (hne := NB0_406.out)) | exact HI0.out)⟩
                        have n4_ : Aside0 (KeepBut w (((((((w37.setCell ⟨gb406, 0, none⟩ (.int .i64 ((rd_T68 s0_0 x66_5).f0))).setCell ⟨gb406, 1, none⟩ (.int .u64 ((rd_T68 s0_0 x66_5).f1.f0))).setCell ⟨gb406, 2, none⟩ (.int .u64 ((rd_T68 s0_0 x66_5).f1.f1))).setCell ⟨gb406, 3, none⟩ (.int .u64 ((rd_T68 s0_0 x66_5).f1.f2))).setCell ⟨gb406, 4, none⟩ (.int .u64 ((rd_T68 s0_0 x66_5).f1.f3))).setCell ⟨gb406, 5, none⟩ (.int .i64 ((rd_T68 s0_0 x66_5).f2))).setCell ⟨gb406, 6, none⟩ (.int .i64 ((rd_T68 s0_0 x66_5).f3))) g none) := ⟨by repeat (first | (with_reducible first | exact HK.out | apply KeepBut.set_ | apply keep_drewN | apply keep_drew | apply keep_alloc | refine keep_far ?_ GW406.out _) | exact HK.out)⟩
                        have n5_ : Aside0 (Below w0.heap.size w0 (((((((w37.setCell ⟨gb406, 0, none⟩ (.int .i64 ((rd_T68 s0_0 x66_5).f0))).setCell ⟨gb406, 1, none⟩ (.int .u64 ((rd_T68 s0_0 x66_5).f1.f0))).setCell ⟨gb406, 2, none⟩ (.int .u64 ((rd_T68 s0_0 x66_5).f1.f1))).setCell ⟨gb406, 3, none⟩ (.int .u64 ((rd_T68 s0_0 x66_5).f1.f2))).setCell ⟨gb406, 4, none⟩ (.int .u64 ((rd_T68 s0_0 x66_5).f1.f3))).setCell ⟨gb406, 5, none⟩ (.int .i64 ((rd_T68 s0_0 x66_5).f2))).setCell ⟨gb406, 6, none⟩ (.int .i64 ((rd_T68 s0_0 x66_5).f3)))) := ⟨by repeat (first | (with_reducible first | exact HB.out | apply below_alloc | apply pw_below_drewN | apply below_drew1 | refine below_set ?_ (IsS66.ge HI0.out) | refine below_set ?_ GE406.out) | exact HB.out)⟩
                        (try clear HO_13)
                        (try clear HO_64)
                        (try clear BK406)
                        (try clear HI0)
                        (try clear HK)
                        (try clear HB)
                        generalize (((((((w37.setCell ⟨gb406, 0, none⟩ (.int .i64 ((rd_T68 s0_0 x66_5).f0))).setCell ⟨gb406, 1, none⟩ (.int .u64 ((rd_T68 s0_0 x66_5).f1.f0))).setCell ⟨gb406, 2, none⟩ (.int .u64 ((rd_T68 s0_0 x66_5).f1.f1))).setCell ⟨gb406, 3, none⟩ (.int .u64 ((rd_T68 s0_0 x66_5).f1.f2))).setCell ⟨gb406, 4, none⟩ (.int .u64 ((rd_T68 s0_0 x66_5).f1.f3))).setCell ⟨gb406, 5, none⟩ (.int .i64 ((rd_T68 s0_0 x66_5).f2))).setCell ⟨gb406, 6, none⟩ (.int .i64 ((rd_T68 s0_0 x66_5).f3))) = w40 at n0_ n1_ n2_ n3_ n4_ n5_ ⊢
                        have HO_13 := n0_
                        have HO_64 := n1_
                        have BK406 := n2_
                        have HI0 := n3_
                        have HK := n4_
                        have HB := n5_
                        clear n0_ n1_ n2_ n3_ n4_ n5_
                        have n0_ := Aside0.mk (Kd.R_drew HO_13.out)
                        have n1_ := Aside0.mk (Kd.R_drew HO_64.out)
                        have n2_ := Aside0.mk (blk_drew BK406.out)
                        have n3_ := Aside0.mk (IsS66.drew HI0.out)
                        have n4_ := Aside0.mk (keep_drew HK.out)
                        have n5_ := Aside0.mk (below_drew1 HB.out)
                        clear HO_13
                        clear HO_64
                        clear BK406
                        clear HI0
                        clear HK
                        clear HB
                        have HO_13 := n0_
                        have HO_64 := n1_
                        have BK406 := n2_
                        have HI0 := n3_
                        have HK := n4_
                        have HB := n5_
                        clear n0_ n1_ n2_ n3_ n4_ n5_
                        have p32 : 0 ≤ (x12_2 : Int) := of_decide_eq_true (by first | (with_reducible assumption) | assumption)
                        have qg32 : x12_2 < (a1.size : Int) := of_decide_eq_true (by first | (with_reducible assumption) | assumption)
                        have hx32 := bt_at a1 x12_2
                        replace p32 := eq_true p32
                        replace qg32 := eq_true qg32
                        refine start_ (n := 20) (S := fun w' => w'.cell? ⟨gb406, 0, none⟩ = some (.int .i64 ((rd_T68 s0_0 x66_5).f0)) ∧ w'.cell? ⟨gb406, 1, none⟩ = some (.int .u64 ((rd_T68 s0_0 x66_5).f1.f0)) ∧ w'.cell? ⟨gb406, 2, none⟩ = some (.int .u64 ((rd_T68 s0_0 x66_5).f1.f1)) ∧ w'.cell? ⟨gb406, 3, none⟩ = some (.int .u64 ((rd_T68 s0_0 x66_5).f1.f2)) ∧ w'.cell? ⟨gb406, 4, none⟩ = some (.int .u64 ((rd_T68 s0_0 x66_5).f1.f3)) ∧ w'.cell? ⟨gb406, 5, none⟩ = some (.int .i64 ((rd_T68 s0_0 x66_5).f2)) ∧ w'.cell? ⟨gb406, 6, none⟩ = some (.int .i64 ((rd_T68 s0_0 x66_5).f3))) (ds := []) #[ff,ff,ff,ff,ff,ff,ff,ff,ff,ff,ff,ff,ff,ff,ff,ff,ff,ff,ff,ff] (by kernel_rfl) rfl rfl ⟨(blk_cell BK406.out 0).trans rfl, (blk_cell BK406.out 1).trans rfl, (blk_cell BK406.out 2).trans rfl, (blk_cell BK406.out 3).trans rfl, (blk_cell BK406.out 4).trans rfl, (blk_cell BK406.out 5).trans rfl, (blk_cell BK406.out 6).trans rfl⟩ (fun hHeld => ?_); refine with_tabW match_Prog_Find.tab17 match_Prog_Find.bits17 (fun HT_ HW_ => ?_)
                        generalize w40.drew = w41 at HO_13 HO_64 BK406 HI0 HK HB hHeld ⊢
                        refine pure_ (i := 0) (N := some 78) (v := ?_) (a' := ?_) #[tt,ff,ff,ff,ff,ff,ff,ff,ff,ff,ff,ff,ff,ff,ff,ff,ff,ff,ff,ff] rfl rfl (any_of HT_.out (by kernel_rfl)) (fun _ _ _ h => h) (Or.inl ⟨by rfl, ?_⟩) ?_ ?_
                        rotate_left
                        ·intro w'
                         go_simp
                         with_reducible rfl
                        rotate_left
                        ·simp only [Act.put, setA, setZ, setS, i64_w, i32_w]
                         rfl
                        refine pure_ (i := 1) (N := some 79) (v := ?_) (a' := ?_) #[tt,tt,ff,ff,ff,ff,ff,ff,ff,ff,ff,ff,ff,ff,ff,ff,ff,ff,ff,ff] rfl rfl (any_of HT_.out (by kernel_rfl)) (fun _ _ _ h => h) (Or.inl ⟨by rfl, ?_⟩) ?_ ?_
                        rotate_left
                        ·intro w'
                         go_simp
                         with_reducible rfl
                        rotate_left
                        ·simp only [Act.put, setA, setZ, setS, i64_w, i32_w]
                         rfl
                        refine pure_ (i := 2) (N := some 80) (v := ?_) (a' := ?_) #[tt,tt,tt,ff,ff,ff,ff,ff,ff,ff,ff,ff,ff,ff,ff,ff,ff,ff,ff,ff] rfl rfl (any_of HT_.out (by kernel_rfl)) (fun _ _ _ h => h) (Or.inl ⟨by rfl, ?_⟩) ?_ ?_
                        rotate_left
                        ·intro w'
                         go_simp
                         with_reducible rfl
                        rotate_left
                        ·simp only [Act.put, setA, setZ, setS, i64_w, i32_w]
                         rfl
                        refine pure_ (i := 3) (N := some 81) (v := ?_) (a' := ?_) #[tt,tt,tt,tt,ff,ff,ff,ff,ff,ff,ff,ff,ff,ff,ff,ff,ff,ff,ff,ff] rfl rfl (any_of HT_.out (by kernel_rfl)) (fun _ _ _ h => h) (Or.inl ⟨by rfl, ?_⟩) ?_ ?_
                        rotate_left
                        ·intro w'
                         go_simp
                         with_reducible rfl
                        rotate_left
                        ·simp only [Act.put, setA, setZ, setS, i64_w, i32_w]
                         rfl
                        refine pure_ (i := 4) (N := some 82) (v := ?_) (a' := ?_) #[tt,tt,tt,tt,tt,ff,ff,ff,ff,ff,ff,ff,ff,ff,ff,ff,ff,ff,ff,ff] rfl rfl (any_of HT_.out (by kernel_rfl)) (fun _ _ _ h => h) (Or.inl ⟨by rfl, ?_⟩) ?_ ?_
                        rotate_left
                        ·intro w'
                         go_simp
                         with_reducible rfl
                        rotate_left
                        ·simp only [Act.put, setA, setZ, setS, i64_w, i32_w]
                         rfl
                        refine pure_ (i := 5) (N := some 83) (v := ?_) (a' := ?_) #[tt,tt,tt,tt,tt,tt,ff,ff,ff,ff,ff,ff,ff,ff,ff,ff,ff,ff,ff,ff] rfl rfl (any_of HT_.out (by kernel_rfl)) (fun _ _ _ h => h) (Or.inl ⟨by rfl, ?_⟩) ?_ ?_
                        rotate_left
                        ·intro w'
                         go_simp
                         with_reducible rfl
                        rotate_left
                        ·simp only [Act.put, setA, setZ, setS, i64_w, i32_w]
                         rfl
                        refine pure_ (i := 6) (N := some 84) (v := ?_) (a' := ?_) #[tt,tt,tt,tt,tt,tt,tt,ff,ff,ff,ff,ff,ff,ff,ff,ff,ff,ff,ff,ff] rfl rfl (any_of HT_.out (by kernel_rfl)) (fun _ _ _ h => h) (Or.inl ⟨by rfl, ?_⟩) ?_ ?_
                        rotate_left
                        ·intro w'
                         go_simp
                         with_reducible rfl
                        rotate_left
                        ·simp only [Act.put, setA, setZ, setS, i64_w, i32_w]
                         rfl
                        refine pure_ (i := 7) (N := some 85) (v := ?_) (a' := ?_) #[tt,tt,tt,tt,tt,tt,tt,tt,ff,ff,ff,ff,ff,ff,ff,ff,ff,ff,ff,ff] rfl rfl (any_of HT_.out (by kernel_rfl)) (fun _ _ _ h => h) (Or.inl ⟨by rfl, ?_⟩) ?_ ?_
                        rotate_left
                        ·intro w'
                         go_simp
                         with_reducible rfl
                        rotate_left
                        ·simp only [Act.put, setA, setZ, setS, i64_w, i32_w]
                         rfl
                        refine pure_ (i := 8) (N := some 86) (v := ?_) (a' := ?_) #[tt,tt,tt,tt,tt,tt,tt,tt,tt,ff,ff,ff,ff,ff,ff,ff,ff,ff,ff,ff] rfl rfl (any_of HT_.out (by kernel_rfl)) (fun _ _ _ h => h) (Or.inl ⟨by rfl, ?_⟩) ?_ ?_
                        rotate_left
                        ·intro w'
                         go_simp
                         with_reducible rfl
                        rotate_left
                        ·simp only [Act.put, setA, setZ, setS, i64_w, i32_w]
                         rfl
                        refine take_ (i := 9) (N := some 87) (v := ?_) (a' := ?_) #[tt,tt,tt,tt,tt,tt,tt,tt,tt,tt,ff,ff,ff,ff,ff,ff,ff,ff,ff,ff] rfl rfl (take_ofW HT_.out HW_.out (by kernel_rfl)) (fun _ _ _ h => h) (Or.inl ⟨by rfl, ?_⟩) hHeld ?_ ?_
                        rotate_left
                        ·rintro w' ⟨s0, s1, s2, s3, s4, s5, s6⟩
                         go_simp
                         with_reducible rfl
                        rotate_left
                        ·simp only [Act.put, setA, setZ, setS, i64_w, i32_w]
                         rfl
                        refine pure_ (i := 10) (N := some 88) (v := ?_) (a' := ?_) #[tt,tt,tt,tt,tt,tt,tt,tt,tt,tt,tt,ff,ff,ff,ff,ff,ff,ff,ff,ff] rfl rfl (any_of HT_.out (by kernel_rfl)) (fun _ _ _ h => h) (Or.inl ⟨by rfl, ?_⟩) ?_ ?_
                        rotate_left
                        ·intro w'
                         go_simp
                         with_reducible rfl
                        rotate_left
                        ·simp only [Act.put, setA, setZ, setS, i64_w, i32_w]
                         rfl
                        refine pure_ (i := 11) (N := some 89) (v := ?_) (a' := ?_) #[tt,tt,tt,tt,tt,tt,tt,tt,tt,tt,tt,tt,ff,ff,ff,ff,ff,ff,ff,ff] rfl rfl (any_of HT_.out (by kernel_rfl)) (fun _ _ _ h => h) (Or.inl ⟨by rfl, ?_⟩) ?_ ?_
                        rotate_left
                        ·intro w'
                         go_simp
                         with_reducible rfl
                        rotate_left
                        ·simp only [Act.put, setA, setZ, setS, i64_w, i32_w]
                         rfl
                        refine pure_ (i := 12) (N := some 90) (v := ?_) (a' := ?_) #[tt,tt,tt,tt,tt,tt,tt,tt,tt,tt,tt,tt,tt,ff,ff,ff,ff,ff,ff,ff] rfl rfl (any_of HT_.out (by kernel_rfl)) (fun _ _ _ h => h) (Or.inl ⟨by rfl, ?_⟩) ?_ ?_
                        rotate_left
                        ·intro w'
                         go_simp
                         with_reducible rfl
                        rotate_left
                        ·simp only [Act.put, setA, setZ, setS, i64_w, i32_w]
                         rfl
                        refine pure_ (i := 13) (N := some 91) (v := ?_) (a' := ?_) #[tt,tt,tt,tt,tt,tt,tt,tt,tt,tt,tt,tt,tt,tt,ff,ff,ff,ff,ff,ff] rfl rfl (any_of HT_.out (by kernel_rfl)) (fun _ _ _ h => h) (Or.inl ⟨by rfl, ?_⟩) ?_ ?_
                        rotate_left
                        ·intro w'
                         go_simp
                         with_reducible rfl
                        rotate_left
                        ·simp only [Act.put, setA, setZ, setS, i64_w, i32_w]
                         rfl
                        refine pure_ (i := 15) (N := some 93) (v := ?_) (a' := ?_) #[tt,tt,tt,tt,tt,tt,tt,tt,tt,tt,tt,tt,tt,tt,ff,tt,ff,ff,ff,ff] rfl rfl (any_of HT_.out (by kernel_rfl)) (fun _ _ _ h => h) (Or.inl ⟨by rfl, ?_⟩) ?_ ?_
                        rotate_left
                        ·intro w'
                         go_simp
                         with_reducible rfl
                        rotate_left
                        ·simp only [Act.put, setA, setZ, setS, i64_w, i32_w]
                         rfl
                        refine pure_ (i := 16) (N := some 94) (v := ?_) (a' := ?_) #[tt,tt,tt,tt,tt,tt,tt,tt,tt,tt,tt,tt,tt,tt,ff,tt,tt,ff,ff,ff] rfl rfl (any_of HT_.out (by kernel_rfl)) (fun _ _ _ h => h) (Or.inl ⟨by rfl, ?_⟩) ?_ ?_
                        rotate_left
                        ·intro w'
                         go_simp
                         with_reducible rfl
                        rotate_left
                        ·simp only [Act.put, setA, setZ, setS, i64_w, i32_w]
                         rfl
                        refine take_ (i := 14) (N := some 92) (v := ?_) (a' := ?_) #[tt,tt,tt,tt,tt,tt,tt,tt,tt,tt,tt,tt,tt,tt,tt,tt,tt,ff,ff,ff] rfl rfl (take_ofW HT_.out HW_.out (by kernel_rfl)) (fun _ _ _ h => h) (Or.inl ⟨by rfl, ?_⟩) hHeld ?_ ?_
                        rotate_left
                        ·rintro w' ⟨s0, s1, s2, s3, s4, s5, s6⟩
                         go_simp
                         with_reducible rfl
                        rotate_left
                        ·simp only [Act.put, setA, setZ, setS, i64_w, i32_w]
                         rfl
                        refine take_ (i := 17) (N := some 95) (v := ?_) (a' := ?_) #[tt,tt,tt,tt,tt,tt,tt,tt,tt,tt,tt,tt,tt,tt,tt,tt,tt,tt,ff,ff] rfl rfl (take_ofW HT_.out HW_.out (by kernel_rfl)) (fun _ _ _ h => h) (Or.inl ⟨by rfl, ?_⟩) hHeld ?_ ?_
                        rotate_left
                        ·rintro w' ⟨s0, s1, s2, s3, s4, s5, s6⟩
                         go_simp
                         with_reducible rfl
                        rotate_left
                        ·simp only [Act.put, setA, setZ, setS, i64_w, i32_w]
                         rfl
                        refine one_ (i := 18) (N := some 96) #[tt,tt,tt,tt,tt,tt,tt,tt,tt,tt,tt,tt,tt,tt,tt,tt,tt,tt,tt,ff] rfl rfl (one_of HT_.out (by kernel_rfl)) (by decide) (fun K hK => ?_)
                        refine goes_ Try.func25 (by kernel_rfl) rfl #[.agg #[.int .u64 ((rd_T68 s0_0 x66_5).f1.f0), .int .u64 ((rd_T68 s0_0 x66_5).f1.f1), .int .u64 ((rd_T68 s0_0 x66_5).f1.f2), .int .u64 ((rd_T68 s0_0 x66_5).f1.f3)], .int .u8 (bt a1 x12_2)] (by rfl) rfl rfl qg2 ?_
                        with_reducible refine (regex_Set_Has.calls ((rd_T68 s0_0 x66_5).f1.f0) ((rd_T68 s0_0 x66_5).f1.f1) ((rd_T68 s0_0 x66_5).f1.f2) ((rd_T68 s0_0 x66_5).f1.f3) (bt a1 x12_2) true _ ?side1 A33.out).mono ?_
                        (case side1 => exact TB.below hT qg6)
                        rintro e w42 ⟨rfl, hb⟩
                        refine ⟨_, rfl, ?_⟩
                        have n0_ := Aside0.mk (Kd.R_below qg4 hb)
                        have n1_ := Aside0.mk (Kd.R_below qg5 hb)
                        have n2_ := Aside0.mk (IsS66.below qg10 hb)
                        have n3_ := Aside0.mk (blk_below (g := gb406) (o := .cells #[.int .i64 ((rd_T68 s0_0 x66_5).f0), .int .u64 ((rd_T68 s0_0 x66_5).f1.f0), .int .u64 ((rd_T68 s0_0 x66_5).f1.f1), .int .u64 ((rd_T68 s0_0 x66_5).f1.f2), .int .u64 ((rd_T68 s0_0 x66_5).f1.f3), .int .i64 ((rd_T68 s0_0 x66_5).f2), .int .i64 ((rd_T68 s0_0 x66_5).f3)] 68 (0, 0)) qg9 hb)
                        have n4_ := Aside0.mk (KeepBut.trans qg8 (KeepBut.of_below hb g none) (.inl rfl))
                        have n5_ := Aside0.mk (below_step qg6 hb)
                        clear HO_13
                        clear HO_64
                        clear HI0
                        clear BK406
                        clear HK
                        clear HB
                        have HO_13 := n0_
                        have HO_64 := n1_
                        have HI0 := n2_
                        have BK406 := n3_
                        have HK := n4_
                        have HB := n5_
                        clear n0_ n1_ n2_ n3_ n4_ n5_
                        (try clear hb)
                        (try clear hb2)
                        (try clear hk)
                        (try clear hi)
                        refine hK.out _ _ ⟨(blk_cell BK406.out 0).trans rfl, (blk_cell BK406.out 1).trans rfl, (blk_cell BK406.out 2).trans rfl, (blk_cell BK406.out 3).trans rfl, (blk_cell BK406.out 4).trans rfl, (blk_cell BK406.out 5).trans rfl, (blk_cell BK406.out 6).trans rfl⟩ (fun hHeld => ?_)
                        clear hK K
                        refine norm_ (a' := ?_) ?_ ?_
                        rotate_left
                        ·show Act.put _ (some 96) _ = _
                         simp only [Act.put, setA, setZ, setS, i64_w, i32_w]
                         rfl
                        refine pure_ (i := 19) (N := some 97) (v := ?_) (a' := ?_) #[tt,tt,tt,tt,tt,tt,tt,tt,tt,tt,tt,tt,tt,tt,tt,tt,tt,tt,tt,tt] rfl rfl (any_of HT_.out (by kernel_rfl)) (fun _ _ _ h => h) (Or.inl ⟨by rfl, ?_⟩) ?_ ?_
                        rotate_left
                        ·intro w'
                         go_simp
                         with_reducible rfl
                        rotate_left
                        ·simp only [Act.put, setA, setZ, setS, i64_w, i32_w]
                         rfl
                        refine done_ (done_of HT_.out (by kernel_rfl)) ?_
                        have hcz43_0 : w42.cell? ⟨gb406, 0, none⟩ = some (.int .i64 ((rd_T68 s0_0 x66_5).f0)) := (blk_cell BK406.out 0).trans rfl
                        have hcz43_1 : w42.cell? ⟨gb406, 1, none⟩ = some (.int .u64 ((rd_T68 s0_0 x66_5).f1.f0)) := (blk_cell BK406.out 1).trans rfl
                        have hcz43_2 : w42.cell? ⟨gb406, 2, none⟩ = some (.int .u64 ((rd_T68 s0_0 x66_5).f1.f1)) := (blk_cell BK406.out 2).trans rfl
                        have hcz43_3 : w42.cell? ⟨gb406, 3, none⟩ = some (.int .u64 ((rd_T68 s0_0 x66_5).f1.f2)) := (blk_cell BK406.out 3).trans rfl
                        have hcz43_4 : w42.cell? ⟨gb406, 4, none⟩ = some (.int .u64 ((rd_T68 s0_0 x66_5).f1.f3)) := (blk_cell BK406.out 4).trans rfl
                        have hcz43_5 : w42.cell? ⟨gb406, 5, none⟩ = some (.int .i64 ((rd_T68 s0_0 x66_5).f2)) := (blk_cell BK406.out 5).trans rfl
                        have hcz43_6 : w42.cell? ⟨gb406, 6, none⟩ = some (.int .i64 ((rd_T68 s0_0 x66_5).f3)) := (blk_cell BK406.out 6).trans rfl
                        have hfz43_0 := blk_frozen BK406.out 0
                        have hfz43_1 := blk_frozen BK406.out 1
                        have hfz43_2 := blk_frozen BK406.out 2
                        have hfz43_3 := blk_frozen BK406.out 3
                        have hfz43_4 := blk_frozen BK406.out 4
                        have hfz43_5 := blk_frozen BK406.out 5
                        have hfz43_6 := blk_frozen BK406.out 6
                        obtain ⟨Ao44, co44, eo44⟩ := Kd.R_slice HO_13.out
                        subst eo44
                        try go_wp2_with (first | ((with_reducible refine gate_callee (f := 24) rfl ?_); refine goesL_ (some 108) rfl rfl Try.func24 (by kernel_rfl) rfl #[.pointer (some ⟨g, 0, none⟩), .slice Ao44 x13_5.length co44, .int .i64 ((rd_T68 s0_0 x66_5).f2), .int .i64 (rd x11_8 x66_5), .bool false, .bool ((wrap64 (x12_2 + 1)) == (a1.size : Int))] rfl qg2 ?_; (with_reducible refine (match_Prog_close.calls k5 g s0_0 x1001_5 (fun k_ => some k_ = (.slice Ao44 x13_5.length co44 : Value).ownBlock) (.slice Ao44 x13_5.length co44) x13_5 ((rd_T68 s0_0 x66_5).f2) (rd x11_8 x66_5) false ((wrap64 (x12_2 + 1)) == (a1.size : Int)) t408 t409 w0 _ ?side1 ?side2 ?side3 ?side4 A35.out).mono ?_); (case side1 => repeat (first | (with_reducible first | exact HI0.out | apply IsS66.alloc | apply IsS66.drewN | apply IsS66.drew | apply IsS66.set_1 | apply IsS66.far (hne := NB0_406.out)) | exact HI0.out)); (case side2 => repeat (first | (with_reducible first | exact HB.out | apply below_alloc | apply pw_below_drewN | apply below_drew1 | refine below_set ?_ (IsS66.ge HI0.out) | refine below_set ?_ GE406.out) | exact HB.out)); (case side3 => exact Kd.R_lower (Kd.R_tight rfl HO_13.out) HL.out); (case side4 => exact hT); rintro e w45 ⟨rfl, hi, hy0, hb, hkp⟩; refine ⟨_, rfl, ?_⟩; have n0_ := Aside0.mk (Kd.R_reok rfl (Kd.R_raise (d := (Kd.int .i64)) (b := w0.heap.size) (b' := w.heap.size) (fun _ _ _ _ h_ => h_) hy0 (fun k_ e_ => Or.elim (hy0.1 k_ e_) (fun hs_ => (fun e_ => Kd.R_base HO_13.out k_ e_.symm) hs_) (fun hn_ => Nat.le_trans (keep_size (w := w) (g := g) (row := none) qg8) hn_))) (fun k_ e_ => HO_13.out.1 k_ e_)); have n1_ := Aside0.mk (Kd.R_mono (ok' := fun k_ => some k_ ≠ (.slice Ao44 x13_5.length co44 : Value).ownBlock) (Kd.R_keptB ((IsS66.apart HI0.out HO_64.out (by decide))) hkp (fun k_ hk_ hs_ => Or.elim hs_ (fun hs_ => (hk_.1) hs_) (fun e_ => (hk_.2) e_))) (fun k_ hk_ => hk_.1.1)); have n2_ := Aside0.mk (hi); have n3_ := Aside0.mk (blk_kept qg9 hkp (fun hs_ => Or.elim hs_ (fun hs_ => (fun e_ => (Kd.R_ne HO_13.out BK406.out (by decide)) e_) hs_) (fun e_ => NB406_0.out e_))); have n4_ := Aside0.mk (Kept.keepG qg8 hkp (fun k_ hs_ => Or.elim hs_ (fun hs_ => (fun e_ => .inr (Kd.R_base HO_13.out k_ e_.symm)) hs_) (fun e_ => .inl e_))); have n5_ := Aside0.mk (hb); clear HO_13; clear HO_64; clear HI0; clear BK406; clear HK; clear HB; have HO_13 := n0_; have HO_64 := n1_; have HI0 := n2_; have BK406 := n3_; have HK := n4_; have HB := n5_; clear n0_ n1_ n2_ n3_ n4_ n5_; (try clear hb); (try clear hkp); (try clear hy0)))
                        go_roundg k5
                        case measure => have := HJ3.out; have := HK2.out; have := HJ8.out; have := HJ15.out; have := HK5.out; omega
                        case rel => exact ⟨(t409), (true), (wrap64 (x66_5 + 1)), (t408), qg1, qg1, H', ⟨by have := HJ3.out; have := HK2.out; have := HJ8.out; have := HJ15.out; have := HK5.out; omega⟩, ⟨by (with_reducible repeat (first | apply Kd.R_alloc | apply Kd.R_drewN | apply Kd.R_drew)); exact HO_13.out⟩, ⟨by (with_reducible repeat (first | apply Kd.R_alloc | apply Kd.R_drewN | apply Kd.R_drew)); exact HO_64.out⟩, ⟨by repeat (first | (with_reducible first | exact HI0.out | apply IsS66.alloc | apply IsS66.drewN | apply IsS66.drew | apply IsS66.set_1 | apply IsS66.far (hne := NB0_406.out)) | exact HI0.out)⟩, ⟨by repeat (first | (with_reducible first | exact HK.out | apply KeepBut.set_ | apply keep_drewN | apply keep_drew | apply keep_alloc | refine keep_far ?_ GW406.out _) | exact HK.out)⟩, ⟨by repeat (first | (with_reducible first | exact HB.out | apply below_alloc | apply pw_below_drewN | apply below_drew1 | refine below_set ?_ (IsS66.ge HI0.out) | refine below_set ?_ GE406.out) | exact HB.out)⟩⟩
                       ·replace c34 := Bool.eq_false_iff.mpr c34
                        subst c34
                        have H1 : (match_Prog_Find.l1 k5 a1 x9_15 x10_15 x12_2 x13_5 x14_5 x11_8 (x11_8.length : Int) (wrap64 (x66_5 + 1)) s0_0 x1001_5) = some (r1, r2, r3, r4) := by rw [if_neg (show ¬ (false = true) by decide)] at H; exact H
                        clear H
                        have H := H1
                        clear H1
                        have H' := Aside0.mk H
                        clear H
                        have p404 : 0 ≤ (x66_5 : Int) := of_decide_eq_true (by first | (with_reducible assumption) | assumption)
                        have qg404 : x66_5 < (x11_8.length : Int) := of_decide_eq_true (by first | (with_reducible assumption) | assumption)
                        obtain ⟨ad404, e404, hx404_0⟩ := Kd.at_int (Kd.R_reads' HO_64.out).2.2 x66_5 p404 qg404
                        obtain rfl : ad398 = ad404 := (by injection e404)
                        replace p404 := eq_true p404
                        replace qg404 := eq_true qg404
                        obtain ⟨ASz46_0, cSz46_0, HGz46, hgz46, HSz46_0⟩ := HI0.out
                        have hcz46_0 := cellS66_0 HGz46
                        have hcz46_1 := cellS66_1 HGz46
                        have hfz46_1 := blk_frozen HGz46 1
                        clear HGz46 hgz46
                        have p405 : 0 ≤ (x66_5 : Int) := of_decide_eq_true (by first | (with_reducible assumption) | assumption)
                        have qg405 : x66_5 < (s0_0.length : Int) := of_decide_eq_true (by first | (with_reducible assumption) | assumption)
                        obtain ⟨ad405, e405, hx405_0, hx405_1, hx405_2, hx405_3, hx405_4, hx405_5, hx405_6⟩ := at_T68 HSz46_0 x66_5 p405 qg405
                        cases e405
                        replace hx405_0 := pw_cell_below HB.out hx405_0
                        replace hx405_1 := pw_cell_below HB.out hx405_1
                        replace hx405_2 := pw_cell_below HB.out hx405_2
                        replace hx405_3 := pw_cell_below HB.out hx405_3
                        replace hx405_4 := pw_cell_below HB.out hx405_4
                        replace hx405_5 := pw_cell_below HB.out hx405_5
                        replace hx405_6 := pw_cell_below HB.out hx405_6
                        replace p405 := eq_true p405
                        replace qg405 := eq_true qg405
                        try go_wp2_with (first | ((with_reducible refine gate_dst (N := 17) rfl ?_); (try (refine gate_guard (by rfl) ?_; dsimp only)); refine box_event ?hg (N := 17) ?hd (cs := #[.int .i64 0, .int .u64 0, .int .u64 0, .int .u64 0, .int .u64 0, .int .i64 0, .int .i64 0]) (t := 68) ?hr ?_; (case hd => rfl); (case hg => rfl); (case hr => first | (go_simp; done) | (go_simp; rfl)); intro gb406 hg w47 hbox hb; have n0_ := Aside0.mk (Kd.R_below qg4 hb); have n1_ := Aside0.mk (Kd.R_below qg5 hb); have n2_ := Aside0.mk (IsS66.below qg7 hb); have n3_ := Aside0.mk (KeepBut.trans qg0 (KeepBut.of_below hb g none) (.inl rfl)); have n4_ := Aside0.mk (below_step qg3 hb); have n5_ := Aside0.mk (hbox); have n6_ := Aside0.mk ((by rw [hg]; exact (keep_size (w := w) (g := g) (row := none) qg0) : w.heap.size ≤ gb406)); have n7_ := Aside0.mk ((Nat.le_trans HW0.out (by rw [hg]; exact (keep_size (w := w) (g := g) (row := none) qg0) : w.heap.size ≤ gb406) : w0.heap.size ≤ gb406)); have n8_ := Aside0.mk ((by rw [hg]; exact Nat.ne_of_lt (IsS66.lt (show IsS66 w0 _ g s0_0 x1001_5 from by repeat (first | (with_reducible first | exact HI0.out | apply IsS66.alloc | apply IsS66.drewN | apply IsS66.drew | apply IsS66.set_1) | exact HI0.out))) : g ≠ gb406)); have n9_ := Aside0.mk ((by rw [hg]; exact Nat.ne_of_gt (IsS66.lt (show IsS66 w0 _ g s0_0 x1001_5 from by repeat (first | (with_reducible first | exact HI0.out | apply IsS66.alloc | apply IsS66.drewN | apply IsS66.drew | apply IsS66.set_1) | exact HI0.out))) : gb406 ≠ g)); clear HO_13; clear HO_64; clear HI0; clear HK; clear HB; have HO_13 := n0_; have HO_64 := n1_; have HI0 := n2_; have HK := n3_; have HB := n4_; have BK406 := n5_; have GW406 := n6_; have GE406 := n7_; have NB0_406 := n8_; have NB406_0 := n9_; clear n0_ n1_ n2_ n3_ n4_ n5_ n6_ n7_ n8_ n9_; clear hb hbox hg; have hnb48 := NB406_0.out; have hnc48 := NB0_406.out; have hcz49_0 : w47.cell? ⟨gb406, 0, none⟩ = some (.int .i64 0) := (blk_cell BK406.out 0).trans rfl; have hcz49_1 : w47.cell? ⟨gb406, 1, none⟩ = some (.int .u64 0) := (blk_cell BK406.out 1).trans rfl; have hcz49_2 : w47.cell? ⟨gb406, 2, none⟩ = some (.int .u64 0) := (blk_cell BK406.out 2).trans rfl; have hcz49_3 : w47.cell? ⟨gb406, 3, none⟩ = some (.int .u64 0) := (blk_cell BK406.out 3).trans rfl; have hcz49_4 : w47.cell? ⟨gb406, 4, none⟩ = some (.int .u64 0) := (blk_cell BK406.out 4).trans rfl; have hcz49_5 : w47.cell? ⟨gb406, 5, none⟩ = some (.int .i64 0) := (blk_cell BK406.out 5).trans rfl; have hcz49_6 : w47.cell? ⟨gb406, 6, none⟩ = some (.int .i64 0) := (blk_cell BK406.out 6).trans rfl; have hfz49_0 := blk_frozen BK406.out 0; have hfz49_1 := blk_frozen BK406.out 1; have hfz49_2 := blk_frozen BK406.out 2; have hfz49_3 := blk_frozen BK406.out 3; have hfz49_4 := blk_frozen BK406.out 4; have hfz49_5 := blk_frozen BK406.out 5; have hfz49_6 := blk_frozen BK406.out 6))
                        have n0_ : Aside0 (Kd.R (Kd.int .i64) 3 (((((((w47.setCell ⟨gb406, 0, none⟩ (.int .i64 ((rd_T68 s0_0 x66_5).f0))).setCell ⟨gb406, 1, none⟩ (.int .u64 ((rd_T68 s0_0 x66_5).f1.f0))).setCell ⟨gb406, 2, none⟩ (.int .u64 ((rd_T68 s0_0 x66_5).f1.f1))).setCell ⟨gb406, 3, none⟩ (.int .u64 ((rd_T68 s0_0 x66_5).f1.f2))).setCell ⟨gb406, 4, none⟩ (.int .u64 ((rd_T68 s0_0 x66_5).f1.f3))).setCell ⟨gb406, 5, none⟩ (.int .i64 ((rd_T68 s0_0 x66_5).f2))).setCell ⟨gb406, 6, none⟩ (.int .i64 ((rd_T68 s0_0 x66_5).f3))) w.heap.size (fun k_ => some k_ ≠ (.slice (some ad398) x11_8.length co17 : Value).ownBlock) v401 x13_5) := ⟨by (with_reducible repeat (first | apply Kd.R_alloc | apply Kd.R_drewN | apply Kd.R_drew)); exact Kd.R_mono (Kd.R_far (p := ⟨gb406, 6, none⟩) (Kd.R_far (p := ⟨gb406, 5, none⟩) (Kd.R_far (p := ⟨gb406, 4, none⟩) (Kd.R_far (p := ⟨gb406, 3, none⟩) (Kd.R_far (p := ⟨gb406, 2, none⟩) (Kd.R_far (p := ⟨gb406, 1, none⟩) (Kd.R_far (p := ⟨gb406, 0, none⟩) (Kd.R_types HO_13.out BK406.out (by decide)) (fun _ hk => hk.2) (.int .i64 ((rd_T68 s0_0 x66_5).f0))) (fun _ hk => hk.2) (.int .u64 ((rd_T68 s0_0 x66_5).f1.f0))) (fun _ hk => hk.2) (.int .u64 ((rd_T68 s0_0 x66_5).f1.f1))) (fun _ hk => hk.2) (.int .u64 ((rd_T68 s0_0 x66_5).f1.f2))) (fun _ hk => hk.2) (.int .u64 ((rd_T68 s0_0 x66_5).f1.f3))) (fun _ hk => hk.2) (.int .i64 ((rd_T68 s0_0 x66_5).f2))) (fun _ hk => hk.2) (.int .i64 ((rd_T68 s0_0 x66_5).f3))) (fun _ hk => hk.1)⟩
                        have n1_ : Aside0 (Kd.R (Kd.int .i64) 3 (((((((w47.setCell ⟨gb406, 0, none⟩ (.int .i64 ((rd_T68 s0_0 x66_5).f0))).setCell ⟨gb406, 1, none⟩ (.int .u64 ((rd_T68 s0_0 x66_5).f1.f0))).setCell ⟨gb406, 2, none⟩ (.int .u64 ((rd_T68 s0_0 x66_5).f1.f1))).setCell ⟨gb406, 3, none⟩ (.int .u64 ((rd_T68 s0_0 x66_5).f1.f2))).setCell ⟨gb406, 4, none⟩ (.int .u64 ((rd_T68 s0_0 x66_5).f1.f3))).setCell ⟨gb406, 5, none⟩ (.int .i64 ((rd_T68 s0_0 x66_5).f2))).setCell ⟨gb406, 6, none⟩ (.int .i64 ((rd_T68 s0_0 x66_5).f3))) w.heap.size (fun k_ => some k_ ≠ (v401 : Value).ownBlock) (.slice (some ad398) x11_8.length co17) x11_8) := ⟨by (with_reducible repeat (first | apply Kd.R_alloc | apply Kd.R_drewN | apply Kd.R_drew)); exact Kd.R_mono (Kd.R_far (p := ⟨gb406, 6, none⟩) (Kd.R_far (p := ⟨gb406, 5, none⟩) (Kd.R_far (p := ⟨gb406, 4, none⟩) (Kd.R_far (p := ⟨gb406, 3, none⟩) (Kd.R_far (p := ⟨gb406, 2, none⟩) (Kd.R_far (p := ⟨gb406, 1, none⟩) (Kd.R_far (p := ⟨gb406, 0, none⟩) (Kd.R_types HO_64.out BK406.out (by decide)) (fun _ hk => hk.2) (.int .i64 ((rd_T68 s0_0 x66_5).f0))) (fun _ hk => hk.2) (.int .u64 ((rd_T68 s0_0 x66_5).f1.f0))) (fun _ hk => hk.2) (.int .u64 ((rd_T68 s0_0 x66_5).f1.f1))) (fun _ hk => hk.2) (.int .u64 ((rd_T68 s0_0 x66_5).f1.f2))) (fun _ hk => hk.2) (.int .u64 ((rd_T68 s0_0 x66_5).f1.f3))) (fun _ hk => hk.2) (.int .i64 ((rd_T68 s0_0 x66_5).f2))) (fun _ hk => hk.2) (.int .i64 ((rd_T68 s0_0 x66_5).f3))) (fun _ hk => hk.1)⟩
                        have n2_ : Aside0 ((((((((w47.setCell ⟨gb406, 0, none⟩ (.int .i64 ((rd_T68 s0_0 x66_5).f0))).setCell ⟨gb406, 1, none⟩ (.int .u64 ((rd_T68 s0_0 x66_5).f1.f0))).setCell ⟨gb406, 2, none⟩ (.int .u64 ((rd_T68 s0_0 x66_5).f1.f1))).setCell ⟨gb406, 3, none⟩ (.int .u64 ((rd_T68 s0_0 x66_5).f1.f2))).setCell ⟨gb406, 4, none⟩ (.int .u64 ((rd_T68 s0_0 x66_5).f1.f3))).setCell ⟨gb406, 5, none⟩ (.int .i64 ((rd_T68 s0_0 x66_5).f2))).setCell ⟨gb406, 6, none⟩ (.int .i64 ((rd_T68 s0_0 x66_5).f3))).heap[gb406]? = some (.cells #[.int .i64 ((rd_T68 s0_0 x66_5).f0), .int .u64 ((rd_T68 s0_0 x66_5).f1.f0), .int .u64 ((rd_T68 s0_0 x66_5).f1.f1), .int .u64 ((rd_T68 s0_0 x66_5).f1.f2), .int .u64 ((rd_T68 s0_0 x66_5).f1.f3), .int .i64 ((rd_T68 s0_0 x66_5).f2), .int .i64 ((rd_T68 s0_0 x66_5).f3)] 68 (0, 0))) := ⟨by (with_reducible repeat (first | refine blk_drewN ?_ _ | refine blk_drew ?_ | refine blk_alloc ?_ _)); refine blk_put (cs := #[.int .i64 ((rd_T68 s0_0 x66_5).f0), .int .u64 ((rd_T68 s0_0 x66_5).f1.f0), .int .u64 ((rd_T68 s0_0 x66_5).f1.f1), .int .u64 ((rd_T68 s0_0 x66_5).f1.f2), .int .u64 ((rd_T68 s0_0 x66_5).f1.f3), .int .i64 ((rd_T68 s0_0 x66_5).f2), .int .i64 0]) ?_ 6 _ rfl; (with_reducible repeat (first | refine blk_drewN ?_ _ | refine blk_drew ?_ | refine blk_alloc ?_ _)); refine blk_put (cs := #[.int .i64 ((rd_T68 s0_0 x66_5).f0), .int .u64 ((rd_T68 s0_0 x66_5).f1.f0), .int .u64 ((rd_T68 s0_0 x66_5).f1.f1), .int .u64 ((rd_T68 s0_0 x66_5).f1.f2), .int .u64 ((rd_T68 s0_0 x66_5).f1.f3), .int .i64 0, .int .i64 0]) ?_ 5 _ rfl; (with_reducible repeat (first | refine blk_drewN ?_ _ | refine blk_drew ?_ | refine blk_alloc ?_ _)); refine blk_put (cs := #[.int .i64 ((rd_T68 s0_0 x66_5).f0), .int .u64 ((rd_T68 s0_0 x66_5).f1.f0), .int .u64 ((rd_T68 s0_0 x66_5).f1.f1), .int .u64 ((rd_T68 s0_0 x66_5).f1.f2), .int .u64 0, .int .i64 0, .int .i64 0]) ?_ 4 _ rfl; (with_reducible repeat (first | refine blk_drewN ?_ _ | refine blk_drew ?_ | refine blk_alloc ?_ _)); refine blk_put (cs := #[.int .i64 ((rd_T68 s0_0 x66_5).f0), .int .u64 ((rd_T68 s0_0 x66_5).f1.f0), .int .u64 ((rd_T68 s0_0 x66_5).f1.f1), .int .u64 0, .int .u64 0, .int .i64 0, .int .i64 0]) ?_ 3 _ rfl; (with_reducible repeat (first | refine blk_drewN ?_ _ | refine blk_drew ?_ | refine blk_alloc ?_ _)); refine blk_put (cs := #[.int .i64 ((rd_T68 s0_0 x66_5).f0), .int .u64 ((rd_T68 s0_0 x66_5).f1.f0), .int .u64 0, .int .u64 0, .int .u64 0, .int .i64 0, .int .i64 0]) ?_ 2 _ rfl; (with_reducible repeat (first | refine blk_drewN ?_ _ | refine blk_drew ?_ | refine blk_alloc ?_ _)); refine blk_put (cs := #[.int .i64 ((rd_T68 s0_0 x66_5).f0), .int .u64 0, .int .u64 0, .int .u64 0, .int .u64 0, .int .i64 0, .int .i64 0]) ?_ 1 _ rfl; (with_reducible repeat (first | refine blk_drewN ?_ _ | refine blk_drew ?_ | refine blk_alloc ?_ _)); refine blk_put (cs := #[.int .i64 0, .int .u64 0, .int .u64 0, .int .u64 0, .int .u64 0, .int .i64 0, .int .i64 0]) ?_ 0 _ rfl; (with_reducible repeat (first | refine blk_drewN ?_ _ | refine blk_drew ?_ | refine blk_alloc ?_ _)); exact BK406.out⟩
                        have n3_ : Aside0 (IsS66 w0 (((((((w47.setCell ⟨gb406, 0, none⟩ (.int .i64 ((rd_T68 s0_0 x66_5).f0))).setCell ⟨gb406, 1, none⟩ (.int .u64 ((rd_T68 s0_0 x66_5).f1.f0))).setCell ⟨gb406, 2, none⟩ (.int .u64 ((rd_T68 s0_0 x66_5).f1.f1))).setCell ⟨gb406, 3, none⟩ (.int .u64 ((rd_T68 s0_0 x66_5).f1.f2))).setCell ⟨gb406, 4, none⟩ (.int .u64 ((rd_T68 s0_0 x66_5).f1.f3))).setCell ⟨gb406, 5, none⟩ (.int .i64 ((rd_T68 s0_0 x66_5).f2))).setCell ⟨gb406, 6, none⟩ (.int .i64 ((rd_T68 s0_0 x66_5).f3))) g s0_0 x1001_5) := ⟨by repeat (first | (with_reducible first | exact HI0.out | apply IsS66.alloc | apply IsS66.drewN | apply IsS66.drew | apply IsS66.set_1 | apply IsS66.far (hne := NB0_406.out)) | exact HI0.out)⟩
                        have n4_ : Aside0 (KeepBut w (((((((w47.setCell ⟨gb406, 0, none⟩ (.int .i64 ((rd_T68 s0_0 x66_5).f0))).setCell ⟨gb406, 1, none⟩ (.int .u64 ((rd_T68 s0_0 x66_5).f1.f0))).setCell ⟨gb406, 2, none⟩ (.int .u64 ((rd_T68 s0_0 x66_5).f1.f1))).setCell ⟨gb406, 3, none⟩ (.int .u64 ((rd_T68 s0_0 x66_5).f1.f2))).setCell ⟨gb406, 4, none⟩ (.int .u64 ((rd_T68 s0_0 x66_5).f1.f3))).setCell ⟨gb406, 5, none⟩ (.int .i64 ((rd_T68 s0_0 x66_5).f2))).setCell ⟨gb406, 6, none⟩ (.int .i64 ((rd_T68 s0_0 x66_5).f3))) g none) := ⟨by repeat (first | (with_reducible first | exact HK.out | apply KeepBut.set_ | apply keep_drewN | apply keep_drew | apply keep_alloc | refine keep_far ?_ GW406.out _) | exact HK.out)⟩
                        have n5_ : Aside0 (Below w0.heap.size w0 (((((((w47.setCell ⟨gb406, 0, none⟩ (.int .i64 ((rd_T68 s0_0 x66_5).f0))).setCell ⟨gb406, 1, none⟩ (.int .u64 ((rd_T68 s0_0 x66_5).f1.f0))).setCell ⟨gb406, 2, none⟩ (.int .u64 ((rd_T68 s0_0 x66_5).f1.f1))).setCell ⟨gb406, 3, none⟩ (.int .u64 ((rd_T68 s0_0 x66_5).f1.f2))).setCell ⟨gb406, 4, none⟩ (.int .u64 ((rd_T68 s0_0 x66_5).f1.f3))).setCell ⟨gb406, 5, none⟩ (.int .i64 ((rd_T68 s0_0 x66_5).f2))).setCell ⟨gb406, 6, none⟩ (.int .i64 ((rd_T68 s0_0 x66_5).f3)))) := ⟨by repeat (first | (with_reducible first | exact HB.out | apply below_alloc | apply pw_below_drewN | apply below_drew1 | refine below_set ?_ (IsS66.ge HI0.out) | refine below_set ?_ GE406.out) | exact HB.out)⟩
                        (try clear HO_13)
                        (try clear HO_64)
                        (try clear BK406)
                        (try clear HI0)
                        (try clear HK)
                        (try clear HB)
                        generalize (((((((w47.setCell ⟨gb406, 0, none⟩ (.int .i64 ((rd_T68 s0_0 x66_5).f0))).setCell ⟨gb406, 1, none⟩ (.int .u64 ((rd_T68 s0_0 x66_5).f1.f0))).setCell ⟨gb406, 2, none⟩ (.int .u64 ((rd_T68 s0_0 x66_5).f1.f1))).setCell ⟨gb406, 3, none⟩ (.int .u64 ((rd_T68 s0_0 x66_5).f1.f2))).setCell ⟨gb406, 4, none⟩ (.int .u64 ((rd_T68 s0_0 x66_5).f1.f3))).setCell ⟨gb406, 5, none⟩ (.int .i64 ((rd_T68 s0_0 x66_5).f2))).setCell ⟨gb406, 6, none⟩ (.int .i64 ((rd_T68 s0_0 x66_5).f3))) = w50 at n0_ n1_ n2_ n3_ n4_ n5_ ⊢
                        have HO_13 := n0_
                        have HO_64 := n1_
                        have BK406 := n2_
                        have HI0 := n3_
                        have HK := n4_
                        have HB := n5_
                        clear n0_ n1_ n2_ n3_ n4_ n5_
                        have n0_ := Aside0.mk (Kd.R_drew HO_13.out)
                        have n1_ := Aside0.mk (Kd.R_drew HO_64.out)
                        have n2_ := Aside0.mk (blk_drew BK406.out)
                        have n3_ := Aside0.mk (IsS66.drew HI0.out)
                        have n4_ := Aside0.mk (keep_drew HK.out)
                        have n5_ := Aside0.mk (below_drew1 HB.out)
                        clear HO_13
                        clear HO_64
                        clear BK406
                        clear HI0
                        clear HK
                        clear HB
                        have HO_13 := n0_
                        have HO_64 := n1_
                        have BK406 := n2_
                        have HI0 := n3_
                        have HK := n4_
                        have HB := n5_
                        clear n0_ n1_ n2_ n3_ n4_ n5_
                        have p32 : 0 ≤ (x12_2 : Int) := of_decide_eq_true (by first | (with_reducible assumption) | assumption)
                        have qg32 : x12_2 < (a1.size : Int) := of_decide_eq_true (by first | (with_reducible assumption) | assumption)
                        have hx32 := bt_at a1 x12_2
                        replace p32 := eq_true p32
                        replace qg32 := eq_true qg32
                        refine start_ (n := 20) (S := fun w' => w'.cell? ⟨gb406, 0, none⟩ = some (.int .i64 ((rd_T68 s0_0 x66_5).f0)) ∧ w'.cell? ⟨gb406, 1, none⟩ = some (.int .u64 ((rd_T68 s0_0 x66_5).f1.f0)) ∧ w'.cell? ⟨gb406, 2, none⟩ = some (.int .u64 ((rd_T68 s0_0 x66_5).f1.f1)) ∧ w'.cell? ⟨gb406, 3, none⟩ = some (.int .u64 ((rd_T68 s0_0 x66_5).f1.f2)) ∧ w'.cell? ⟨gb406, 4, none⟩ = some (.int .u64 ((rd_T68 s0_0 x66_5).f1.f3)) ∧ w'.cell? ⟨gb406, 5, none⟩ = some (.int .i64 ((rd_T68 s0_0 x66_5).f2)) ∧ w'.cell? ⟨gb406, 6, none⟩ = some (.int .i64 ((rd_T68 s0_0 x66_5).f3))) (ds := []) #[ff,ff,ff,ff,ff,ff,ff,ff,ff,ff,ff,ff,ff,ff,ff,ff,ff,ff,ff,ff] (by kernel_rfl) rfl rfl ⟨(blk_cell BK406.out 0).trans rfl, (blk_cell BK406.out 1).trans rfl, (blk_cell BK406.out 2).trans rfl, (blk_cell BK406.out 3).trans rfl, (blk_cell BK406.out 4).trans rfl, (blk_cell BK406.out 5).trans rfl, (blk_cell BK406.out 6).trans rfl⟩ (fun hHeld => ?_); refine with_tabW match_Prog_Find.tab17 match_Prog_Find.bits17 (fun HT_ HW_ => ?_)
                        generalize w50.drew = w51 at HO_13 HO_64 BK406 HI0 HK HB hHeld ⊢
                        refine pure_ (i := 0) (N := some 78) (v := ?_) (a' := ?_) #[tt,ff,ff,ff,ff,ff,ff,ff,ff,ff,ff,ff,ff,ff,ff,ff,ff,ff,ff,ff] rfl rfl (any_of HT_.out (by kernel_rfl)) (fun _ _ _ h => h) (Or.inl ⟨by rfl, ?_⟩) ?_ ?_
                        rotate_left
                        ·intro w'
                         go_simp
                         with_reducible rfl
                        rotate_left
                        ·simp only [Act.put, setA, setZ, setS, i64_w, i32_w]
                         rfl
                        refine pure_ (i := 1) (N := some 79) (v := ?_) (a' := ?_) #[tt,tt,ff,ff,ff,ff,ff,ff,ff,ff,ff,ff,ff,ff,ff,ff,ff,ff,ff,ff] rfl rfl (any_of HT_.out (by kernel_rfl)) (fun _ _ _ h => h) (Or.inl ⟨by rfl, ?_⟩) ?_ ?_
                        rotate_left
                        ·intro w'
                         go_simp
                         with_reducible rfl
                        rotate_left
                        ·simp only [Act.put, setA, setZ, setS, i64_w, i32_w]
                         rfl
                        refine pure_ (i := 2) (N := some 80) (v := ?_) (a' := ?_) #[tt,tt,tt,ff,ff,ff,ff,ff,ff,ff,ff,ff,ff,ff,ff,ff,ff,ff,ff,ff] rfl rfl (any_of HT_.out (by kernel_rfl)) (fun _ _ _ h => h) (Or.inl ⟨by rfl, ?_⟩) ?_ ?_
                        rotate_left
                        ·intro w'
                         go_simp
                         with_reducible rfl
                        rotate_left
                        ·simp only [Act.put, setA, setZ, setS, i64_w, i32_w]
                         rfl
                        refine pure_ (i := 3) (N := some 81) (v := ?_) (a' := ?_) #[tt,tt,tt,tt,ff,ff,ff,ff,ff,ff,ff,ff,ff,ff,ff,ff,ff,ff,ff,ff] rfl rfl (any_of HT_.out (by kernel_rfl)) (fun _ _ _ h => h) (Or.inl ⟨by rfl, ?_⟩) ?_ ?_
                        rotate_left
                        ·intro w'
                         go_simp
                         with_reducible rfl
                        rotate_left
                        ·simp only [Act.put, setA, setZ, setS, i64_w, i32_w]
                         rfl
                        refine pure_ (i := 4) (N := some 82) (v := ?_) (a' := ?_) #[tt,tt,tt,tt,tt,ff,ff,ff,ff,ff,ff,ff,ff,ff,ff,ff,ff,ff,ff,ff] rfl rfl (any_of HT_.out (by kernel_rfl)) (fun _ _ _ h => h) (Or.inl ⟨by rfl, ?_⟩) ?_ ?_
                        rotate_left
                        ·intro w'
                         go_simp
                         with_reducible rfl
                        rotate_left
                        ·simp only [Act.put, setA, setZ, setS, i64_w, i32_w]
                         rfl
                        refine pure_ (i := 5) (N := some 83) (v := ?_) (a' := ?_) #[tt,tt,tt,tt,tt,tt,ff,ff,ff,ff,ff,ff,ff,ff,ff,ff,ff,ff,ff,ff] rfl rfl (any_of HT_.out (by kernel_rfl)) (fun _ _ _ h => h) (Or.inl ⟨by rfl, ?_⟩) ?_ ?_
                        rotate_left
                        ·intro w'
                         go_simp
                         with_reducible rfl
                        rotate_left
                        ·simp only [Act.put, setA, setZ, setS, i64_w, i32_w]
                         rfl
                        refine pure_ (i := 6) (N := some 84) (v := ?_) (a' := ?_) #[tt,tt,tt,tt,tt,tt,tt,ff,ff,ff,ff,ff,ff,ff,ff,ff,ff,ff,ff,ff] rfl rfl (any_of HT_.out (by kernel_rfl)) (fun _ _ _ h => h) (Or.inl ⟨by rfl, ?_⟩) ?_ ?_
                        rotate_left
                        ·intro w'
                         go_simp
                         with_reducible rfl
                        rotate_left
                        ·simp only [Act.put, setA, setZ, setS, i64_w, i32_w]
                         rfl
                        refine pure_ (i := 7) (N := some 85) (v := ?_) (a' := ?_) #[tt,tt,tt,tt,tt,tt,tt,tt,ff,ff,ff,ff,ff,ff,ff,ff,ff,ff,ff,ff] rfl rfl (any_of HT_.out (by kernel_rfl)) (fun _ _ _ h => h) (Or.inl ⟨by rfl, ?_⟩) ?_ ?_
                        rotate_left
                        ·intro w'
                         go_simp
                         with_reducible rfl
                        rotate_left
                        ·simp only [Act.put, setA, setZ, setS, i64_w, i32_w]
                         rfl
                        refine pure_ (i := 8) (N := some 86) (v := ?_) (a' := ?_) #[tt,tt,tt,tt,tt,tt,tt,tt,tt,ff,ff,ff,ff,ff,ff,ff,ff,ff,ff,ff] rfl rfl (any_of HT_.out (by kernel_rfl)) (fun _ _ _ h => h) (Or.inl ⟨by rfl, ?_⟩) ?_ ?_
                        rotate_left
                        ·intro w'
                         go_simp
                         with_reducible rfl
                        rotate_left
                        ·simp only [Act.put, setA, setZ, setS, i64_w, i32_w]
                         rfl
                        refine take_ (i := 9) (N := some 87) (v := ?_) (a' := ?_) #[tt,tt,tt,tt,tt,tt,tt,tt,tt,tt,ff,ff,ff,ff,ff,ff,ff,ff,ff,ff] rfl rfl (take_ofW HT_.out HW_.out (by kernel_rfl)) (fun _ _ _ h => h) (Or.inl ⟨by rfl, ?_⟩) hHeld ?_ ?_
                        rotate_left
                        ·rintro w' ⟨s0, s1, s2, s3, s4, s5, s6⟩
                         go_simp
                         with_reducible rfl
                        rotate_left
                        ·simp only [Act.put, setA, setZ, setS, i64_w, i32_w]
                         rfl
                        refine pure_ (i := 10) (N := some 88) (v := ?_) (a' := ?_) #[tt,tt,tt,tt,tt,tt,tt,tt,tt,tt,tt,ff,ff,ff,ff,ff,ff,ff,ff,ff] rfl rfl (any_of HT_.out (by kernel_rfl)) (fun _ _ _ h => h) (Or.inl ⟨by rfl, ?_⟩) ?_ ?_
                        rotate_left
                        ·intro w'
                         go_simp
                         with_reducible rfl
                        rotate_left
                        ·simp only [Act.put, setA, setZ, setS, i64_w, i32_w]
                         rfl
                        refine pure_ (i := 11) (N := some 89) (v := ?_) (a' := ?_) #[tt,tt,tt,tt,tt,tt,tt,tt,tt,tt,tt,tt,ff,ff,ff,ff,ff,ff,ff,ff] rfl rfl (any_of HT_.out (by kernel_rfl)) (fun _ _ _ h => h) (Or.inl ⟨by rfl, ?_⟩) ?_ ?_
                        rotate_left
                        ·intro w'
                         go_simp
                         with_reducible rfl
                        rotate_left
                        ·simp only [Act.put, setA, setZ, setS, i64_w, i32_w]
                         rfl
                        refine pure_ (i := 12) (N := some 90) (v := ?_) (a' := ?_) #[tt,tt,tt,tt,tt,tt,tt,tt,tt,tt,tt,tt,tt,ff,ff,ff,ff,ff,ff,ff] rfl rfl (any_of HT_.out (by kernel_rfl)) (fun _ _ _ h => h) (Or.inl ⟨by rfl, ?_⟩) ?_ ?_
                        rotate_left
                        ·intro w'
                         go_simp
                         with_reducible rfl
                        rotate_left
                        ·simp only [Act.put, setA, setZ, setS, i64_w, i32_w]
                         rfl
                        refine pure_ (i := 13) (N := some 91) (v := ?_) (a' := ?_) #[tt,tt,tt,tt,tt,tt,tt,tt,tt,tt,tt,tt,tt,tt,ff,ff,ff,ff,ff,ff] rfl rfl (any_of HT_.out (by kernel_rfl)) (fun _ _ _ h => h) (Or.inl ⟨by rfl, ?_⟩) ?_ ?_
                        rotate_left
                        ·intro w'
                         go_simp
                         with_reducible rfl
                        rotate_left
                        ·simp only [Act.put, setA, setZ, setS, i64_w, i32_w]
                         rfl
                        refine pure_ (i := 15) (N := some 93) (v := ?_) (a' := ?_) #[tt,tt,tt,tt,tt,tt,tt,tt,tt,tt,tt,tt,tt,tt,ff,tt,ff,ff,ff,ff] rfl rfl (any_of HT_.out (by kernel_rfl)) (fun _ _ _ h => h) (Or.inl ⟨by rfl, ?_⟩) ?_ ?_
                        rotate_left
                        ·intro w'
                         go_simp
                         with_reducible rfl
                        rotate_left
                        ·simp only [Act.put, setA, setZ, setS, i64_w, i32_w]
                         rfl
                        refine pure_ (i := 16) (N := some 94) (v := ?_) (a' := ?_) #[tt,tt,tt,tt,tt,tt,tt,tt,tt,tt,tt,tt,tt,tt,ff,tt,tt,ff,ff,ff] rfl rfl (any_of HT_.out (by kernel_rfl)) (fun _ _ _ h => h) (Or.inl ⟨by rfl, ?_⟩) ?_ ?_
                        rotate_left
                        ·intro w'
                         go_simp
                         with_reducible rfl
                        rotate_left
                        ·simp only [Act.put, setA, setZ, setS, i64_w, i32_w]
                         rfl
                        refine take_ (i := 14) (N := some 92) (v := ?_) (a' := ?_) #[tt,tt,tt,tt,tt,tt,tt,tt,tt,tt,tt,tt,tt,tt,tt,tt,tt,ff,ff,ff] rfl rfl (take_ofW HT_.out HW_.out (by kernel_rfl)) (fun _ _ _ h => h) (Or.inl ⟨by rfl, ?_⟩) hHeld ?_ ?_
                        rotate_left
                        ·rintro w' ⟨s0, s1, s2, s3, s4, s5, s6⟩
                         go_simp
                         with_reducible rfl
                        rotate_left
                        ·simp only [Act.put, setA, setZ, setS, i64_w, i32_w]
                         rfl
                        refine take_ (i := 17) (N := some 95) (v := ?_) (a' := ?_) #[tt,tt,tt,tt,tt,tt,tt,tt,tt,tt,tt,tt,tt,tt,tt,tt,tt,tt,ff,ff] rfl rfl (take_ofW HT_.out HW_.out (by kernel_rfl)) (fun _ _ _ h => h) (Or.inl ⟨by rfl, ?_⟩) hHeld ?_ ?_
                        rotate_left
                        ·rintro w' ⟨s0, s1, s2, s3, s4, s5, s6⟩
                         go_simp
                         with_reducible rfl
                        rotate_left
                        ·simp only [Act.put, setA, setZ, setS, i64_w, i32_w]
                         rfl
                        refine one_ (i := 18) (N := some 96) #[tt,tt,tt,tt,tt,tt,tt,tt,tt,tt,tt,tt,tt,tt,tt,tt,tt,tt,tt,ff] rfl rfl (one_of HT_.out (by kernel_rfl)) (by decide) (fun K hK => ?_)
                        refine goes_ Try.func25 (by kernel_rfl) rfl #[.agg #[.int .u64 ((rd_T68 s0_0 x66_5).f1.f0), .int .u64 ((rd_T68 s0_0 x66_5).f1.f1), .int .u64 ((rd_T68 s0_0 x66_5).f1.f2), .int .u64 ((rd_T68 s0_0 x66_5).f1.f3)], .int .u8 (bt a1 x12_2)] (by rfl) rfl rfl qg2 ?_
                        with_reducible refine (regex_Set_Has.calls ((rd_T68 s0_0 x66_5).f1.f0) ((rd_T68 s0_0 x66_5).f1.f1) ((rd_T68 s0_0 x66_5).f1.f2) ((rd_T68 s0_0 x66_5).f1.f3) (bt a1 x12_2) false _ ?side1 A33.out).mono ?_
                        (case side1 => exact TB.below hT qg6)
                        rintro e w52 ⟨rfl, hb⟩
                        refine ⟨_, rfl, ?_⟩
                        have n0_ := Aside0.mk (Kd.R_below qg4 hb)
                        have n1_ := Aside0.mk (Kd.R_below qg5 hb)
                        have n2_ := Aside0.mk (IsS66.below qg10 hb)
                        have n3_ := Aside0.mk (blk_below (g := gb406) (o := .cells #[.int .i64 ((rd_T68 s0_0 x66_5).f0), .int .u64 ((rd_T68 s0_0 x66_5).f1.f0), .int .u64 ((rd_T68 s0_0 x66_5).f1.f1), .int .u64 ((rd_T68 s0_0 x66_5).f1.f2), .int .u64 ((rd_T68 s0_0 x66_5).f1.f3), .int .i64 ((rd_T68 s0_0 x66_5).f2), .int .i64 ((rd_T68 s0_0 x66_5).f3)] 68 (0, 0)) qg9 hb)
                        have n4_ := Aside0.mk (KeepBut.trans qg8 (KeepBut.of_below hb g none) (.inl rfl))
                        have n5_ := Aside0.mk (below_step qg6 hb)
                        clear HO_13
                        clear HO_64
                        clear HI0
                        clear BK406
                        clear HK
                        clear HB
                        have HO_13 := n0_
                        have HO_64 := n1_
                        have HI0 := n2_
                        have BK406 := n3_
                        have HK := n4_
                        have HB := n5_
                        clear n0_ n1_ n2_ n3_ n4_ n5_
                        (try clear hb)
                        (try clear hb2)
                        (try clear hk)
                        (try clear hi)
                        refine hK.out _ _ ⟨(blk_cell BK406.out 0).trans rfl, (blk_cell BK406.out 1).trans rfl, (blk_cell BK406.out 2).trans rfl, (blk_cell BK406.out 3).trans rfl, (blk_cell BK406.out 4).trans rfl, (blk_cell BK406.out 5).trans rfl, (blk_cell BK406.out 6).trans rfl⟩ (fun hHeld => ?_)
                        clear hK K
                        refine norm_ (a' := ?_) ?_ ?_
                        rotate_left
                        ·show Act.put _ (some 96) _ = _
                         simp only [Act.put, setA, setZ, setS, i64_w, i32_w]
                         rfl
                        refine pure_ (i := 19) (N := some 97) (v := ?_) (a' := ?_) #[tt,tt,tt,tt,tt,tt,tt,tt,tt,tt,tt,tt,tt,tt,tt,tt,tt,tt,tt,tt] rfl rfl (any_of HT_.out (by kernel_rfl)) (fun _ _ _ h => h) (Or.inl ⟨by rfl, ?_⟩) ?_ ?_
                        rotate_left
                        ·intro w'
                         go_simp
                         with_reducible rfl
                        rotate_left
                        ·simp only [Act.put, setA, setZ, setS, i64_w, i32_w]
                         rfl
                        refine done_ (done_of HT_.out (by kernel_rfl)) ?_
                        try go_wp2
                        go_roundg k5
                        case measure => have := HJ3.out; have := HK2.out; have := HJ8.out; have := HJ15.out; have := HK5.out; omega
                        case rel => exact ⟨(x13_5), (x14_5), (wrap64 (x66_5 + 1)), (x1001_5), qg1, qg1, H', ⟨by have := HJ3.out; have := HK2.out; have := HJ8.out; have := HJ15.out; have := HK5.out; omega⟩, ⟨by (with_reducible repeat (first | apply Kd.R_alloc | apply Kd.R_drewN | apply Kd.R_drew)); exact HO_13.out⟩, ⟨by (with_reducible repeat (first | apply Kd.R_alloc | apply Kd.R_drewN | apply Kd.R_drew)); exact HO_64.out⟩, ⟨by repeat (first | (with_reducible first | exact HI0.out | apply IsS66.alloc | apply IsS66.drewN | apply IsS66.drew | apply IsS66.set_1 | apply IsS66.far (hne := NB0_406.out)) | exact HI0.out)⟩, ⟨by repeat (first | (with_reducible first | exact HK.out | apply KeepBut.set_ | apply keep_drewN | apply keep_drew | apply keep_alloc | refine keep_far ?_ GW406.out _) | exact HK.out)⟩, ⟨by repeat (first | (with_reducible first | exact HB.out | apply below_alloc | apply pw_below_drewN | apply below_drew1 | refine below_set ?_ (IsS66.ge HI0.out) | refine below_set ?_ GE406.out) | exact HB.out)⟩⟩
                      ·rw [if_neg c31] at H
                       exact absurd H (by simp)
                     ·rw [if_neg c30] at H
                      exact absurd H (by simp)
                    ·rw [if_neg c29] at H
                     have c29b0 : (((rd_T68 s0_0 x66_5).f0) == 0) = false := beq_eq_false_iff_ne.mpr c29
                     have c29b1 : (((rd_T68 s0_0 x66_5).f0) != 0) = true := bne_iff_ne.mpr c29
                     have H' := Aside0.mk H
                     clear H
                     have p404 : 0 ≤ (x66_5 : Int) := of_decide_eq_true (by first | (with_reducible assumption) | assumption)
                     have qg404 : x66_5 < (x11_8.length : Int) := of_decide_eq_true (by first | (with_reducible assumption) | assumption)
                     obtain ⟨ad404, e404, hx404_0⟩ := Kd.at_int (Kd.R_reads' HO_64.out).2.2 x66_5 p404 qg404
                     obtain rfl : ad398 = ad404 := (by injection e404)
                     replace p404 := eq_true p404
                     replace qg404 := eq_true qg404
                     obtain ⟨ASz53_0, cSz53_0, HGz53, hgz53, HSz53_0⟩ := HI0.out
                     have hcz53_0 := cellS66_0 HGz53
                     have hcz53_1 := cellS66_1 HGz53
                     have hfz53_1 := blk_frozen HGz53 1
                     clear HGz53 hgz53
                     have p405 : 0 ≤ (x66_5 : Int) := of_decide_eq_true (by first | (with_reducible assumption) | assumption)
                     have qg405 : x66_5 < (s0_0.length : Int) := of_decide_eq_true (by first | (with_reducible assumption) | assumption)
                     obtain ⟨ad405, e405, hx405_0, hx405_1, hx405_2, hx405_3, hx405_4, hx405_5, hx405_6⟩ := at_T68 HSz53_0 x66_5 p405 qg405
                     cases e405
                     replace hx405_0 := pw_cell_below HB.out hx405_0
                     replace hx405_1 := pw_cell_below HB.out hx405_1
                     replace hx405_2 := pw_cell_below HB.out hx405_2
                     replace hx405_3 := pw_cell_below HB.out hx405_3
                     replace hx405_4 := pw_cell_below HB.out hx405_4
                     replace hx405_5 := pw_cell_below HB.out hx405_5
                     replace hx405_6 := pw_cell_below HB.out hx405_6
                     replace p405 := eq_true p405
                     replace qg405 := eq_true qg405
                     try go_wp2_with (first | ((with_reducible refine gate_dst (N := 17) rfl ?_); (try (refine gate_guard (by rfl) ?_; dsimp only)); refine box_event ?hg (N := 17) ?hd (cs := #[.int .i64 0, .int .u64 0, .int .u64 0, .int .u64 0, .int .u64 0, .int .i64 0, .int .i64 0]) (t := 68) ?hr ?_; (case hd => rfl); (case hg => rfl); (case hr => first | (go_simp; done) | (go_simp; rfl)); intro gb406 hg w54 hbox hb; have n0_ := Aside0.mk (Kd.R_below qg4 hb); have n1_ := Aside0.mk (Kd.R_below qg5 hb); have n2_ := Aside0.mk (IsS66.below qg7 hb); have n3_ := Aside0.mk (KeepBut.trans qg0 (KeepBut.of_below hb g none) (.inl rfl)); have n4_ := Aside0.mk (below_step qg3 hb); have n5_ := Aside0.mk (hbox); have n6_ := Aside0.mk ((by rw [hg]; exact (keep_size (w := w) (g := g) (row := none) qg0) : w.heap.size ≤ gb406)); have n7_ := Aside0.mk ((Nat.le_trans HW0.out (by rw [hg]; exact (keep_size (w := w) (g := g) (row := none) qg0) : w.heap.size ≤ gb406) : w0.heap.size ≤ gb406)); have n8_ := Aside0.mk ((by rw [hg]; exact Nat.ne_of_lt (IsS66.lt (show IsS66 w0 _ g s0_0 x1001_5 from by repeat (first | (with_reducible first | exact HI0.out | apply IsS66.alloc | apply IsS66.drewN | apply IsS66.drew | apply IsS66.set_1) | exact HI0.out))) : g ≠ gb406)); have n9_ := Aside0.mk ((by rw [hg]; exact Nat.ne_of_gt (IsS66.lt (show IsS66 w0 _ g s0_0 x1001_5 from by repeat (first | (with_reducible first | exact HI0.out | apply IsS66.alloc | apply IsS66.drewN | apply IsS66.drew | apply IsS66.set_1) | exact HI0.out))) : gb406 ≠ g)); clear HO_13; clear HO_64; clear HI0; clear HK; clear HB; have HO_13 := n0_; have HO_64 := n1_; have HI0 := n2_; have HK := n3_; have HB := n4_; have BK406 := n5_; have GW406 := n6_; have GE406 := n7_; have NB0_406 := n8_; have NB406_0 := n9_; clear n0_ n1_ n2_ n3_ n4_ n5_ n6_ n7_ n8_ n9_; clear hb hbox hg; have hnb55 := NB406_0.out; have hnc55 := NB0_406.out; have hcz56_0 : w54.cell? ⟨gb406, 0, none⟩ = some (.int .i64 0) := (blk_cell BK406.out 0).trans rfl; have hcz56_1 : w54.cell? ⟨gb406, 1, none⟩ = some (.int .u64 0) := (blk_cell BK406.out 1).trans rfl; have hcz56_2 : w54.cell? ⟨gb406, 2, none⟩ = some (.int .u64 0) := (blk_cell BK406.out 2).trans rfl; have hcz56_3 : w54.cell? ⟨gb406, 3, none⟩ = some (.int .u64 0) := (blk_cell BK406.out 3).trans rfl; have hcz56_4 : w54.cell? ⟨gb406, 4, none⟩ = some (.int .u64 0) := (blk_cell BK406.out 4).trans rfl; have hcz56_5 : w54.cell? ⟨gb406, 5, none⟩ = some (.int .i64 0) := (blk_cell BK406.out 5).trans rfl; have hcz56_6 : w54.cell? ⟨gb406, 6, none⟩ = some (.int .i64 0) := (blk_cell BK406.out 6).trans rfl; have hfz56_0 := blk_frozen BK406.out 0; have hfz56_1 := blk_frozen BK406.out 1; have hfz56_2 := blk_frozen BK406.out 2; have hfz56_3 := blk_frozen BK406.out 3; have hfz56_4 := blk_frozen BK406.out 4; have hfz56_5 := blk_frozen BK406.out 5; have hfz56_6 := blk_frozen BK406.out 6))
                     have n0_ : Aside0 (Kd.R (Kd.int .i64) 3 (((((((w54.setCell ⟨gb406, 0, none⟩ (.int .i64 ((rd_T68 s0_0 x66_5).f0))).setCell ⟨gb406, 1, none⟩ (.int .u64 ((rd_T68 s0_0 x66_5).f1.f0))).setCell ⟨gb406, 2, none⟩ (.int .u64 ((rd_T68 s0_0 x66_5).f1.f1))).setCell ⟨gb406, 3, none⟩ (.int .u64 ((rd_T68 s0_0 x66_5).f1.f2))).setCell ⟨gb406, 4, none⟩ (.int .u64 ((rd_T68 s0_0 x66_5).f1.f3))).setCell ⟨gb406, 5, none⟩ (.int .i64 ((rd_T68 s0_0 x66_5).f2))).setCell ⟨gb406, 6, none⟩ (.int .i64 ((rd_T68 s0_0 x66_5).f3))) w.heap.size (fun k_ => some k_ ≠ (.slice (some ad398) x11_8.length co17 : Value).ownBlock) v401 x13_5) := ⟨by (with_reducible repeat (first | apply Kd.R_alloc | apply Kd.R_drewN | apply Kd.R_drew)); exact Kd.R_mono (Kd.R_far (p := ⟨gb406, 6, none⟩) (Kd.R_far (p := ⟨gb406, 5, none⟩) (Kd.R_far (p := ⟨gb406, 4, none⟩) (Kd.R_far (p := ⟨gb406, 3, none⟩) (Kd.R_far (p := ⟨gb406, 2, none⟩) (Kd.R_far (p := ⟨gb406, 1, none⟩) (Kd.R_far (p := ⟨gb406, 0, none⟩) (Kd.R_types HO_13.out BK406.out (by decide)) (fun _ hk => hk.2) (.int .i64 ((rd_T68 s0_0 x66_5).f0))) (fun _ hk => hk.2) (.int .u64 ((rd_T68 s0_0 x66_5).f1.f0))) (fun _ hk => hk.2) (.int .u64 ((rd_T68 s0_0 x66_5).f1.f1))) (fun _ hk => hk.2) (.int .u64 ((rd_T68 s0_0 x66_5).f1.f2))) (fun _ hk => hk.2) (.int .u64 ((rd_T68 s0_0 x66_5).f1.f3))) (fun _ hk => hk.2) (.int .i64 ((rd_T68 s0_0 x66_5).f2))) (fun _ hk => hk.2) (.int .i64 ((rd_T68 s0_0 x66_5).f3))) (fun _ hk => hk.1)⟩
                     have n1_ : Aside0 (Kd.R (Kd.int .i64) 3 (((((((w54.setCell ⟨gb406, 0, none⟩ (.int .i64 ((rd_T68 s0_0 x66_5).f0))).setCell ⟨gb406, 1, none⟩ (.int .u64 ((rd_T68 s0_0 x66_5).f1.f0))).setCell ⟨gb406, 2, none⟩ (.int .u64 ((rd_T68 s0_0 x66_5).f1.f1))).setCell ⟨gb406, 3, none⟩ (.int .u64 ((rd_T68 s0_0 x66_5).f1.f2))).setCell ⟨gb406, 4, none⟩ (.int .u64 ((rd_T68 s0_0 x66_5).f1.f3))).setCell ⟨gb406, 5, none⟩ (.int .i64 ((rd_T68 s0_0 x66_5).f2))).setCell ⟨gb406, 6, none⟩ (.int .i64 ((rd_T68 s0_0 x66_5).f3))) w.heap.size (fun k_ => some k_ ≠ (v401 : Value).ownBlock) (.slice (some ad398) x11_8.length co17) x11_8) := ⟨by (with_reducible repeat (first | apply Kd.R_alloc | apply Kd.R_drewN | apply Kd.R_drew)); exact Kd.R_mono (Kd.R_far (p := ⟨gb406, 6, none⟩) (Kd.R_far (p := ⟨gb406, 5, none⟩) (Kd.R_far (p := ⟨gb406, 4, none⟩) (Kd.R_far (p := ⟨gb406, 3, none⟩) (Kd.R_far (p := ⟨gb406, 2, none⟩) (Kd.R_far (p := ⟨gb406, 1, none⟩) (Kd.R_far (p := ⟨gb406, 0, none⟩) (Kd.R_types HO_64.out BK406.out (by decide)) (fun _ hk => hk.2) (.int .i64 ((rd_T68 s0_0 x66_5).f0))) (fun _ hk => hk.2) (.int .u64 ((rd_T68 s0_0 x66_5).f1.f0))) (fun _ hk => hk.2) (.int .u64 ((rd_T68 s0_0 x66_5).f1.f1))) (fun _ hk => hk.2) (.int .u64 ((rd_T68 s0_0 x66_5).f1.f2))) (fun _ hk => hk.2) (.int .u64 ((rd_T68 s0_0 x66_5).f1.f3))) (fun _ hk => hk.2) (.int .i64 ((rd_T68 s0_0 x66_5).f2))) (fun _ hk => hk.2) (.int .i64 ((rd_T68 s0_0 x66_5).f3))) (fun _ hk => hk.1)⟩
                     have n2_ : Aside0 ((((((((w54.setCell ⟨gb406, 0, none⟩ (.int .i64 ((rd_T68 s0_0 x66_5).f0))).setCell ⟨gb406, 1, none⟩ (.int .u64 ((rd_T68 s0_0 x66_5).f1.f0))).setCell ⟨gb406, 2, none⟩ (.int .u64 ((rd_T68 s0_0 x66_5).f1.f1))).setCell ⟨gb406, 3, none⟩ (.int .u64 ((rd_T68 s0_0 x66_5).f1.f2))).setCell ⟨gb406, 4, none⟩ (.int .u64 ((rd_T68 s0_0 x66_5).f1.f3))).setCell ⟨gb406, 5, none⟩ (.int .i64 ((rd_T68 s0_0 x66_5).f2))).setCell ⟨gb406, 6, none⟩ (.int .i64 ((rd_T68 s0_0 x66_5).f3))).heap[gb406]? = some (.cells #[.int .i64 ((rd_T68 s0_0 x66_5).f0), .int .u64 ((rd_T68 s0_0 x66_5).f1.f0), .int .u64 ((rd_T68 s0_0 x66_5).f1.f1), .int .u64 ((rd_T68 s0_0 x66_5).f1.f2), .int .u64 ((rd_T68 s0_0 x66_5).f1.f3), .int .i64 ((rd_T68 s0_0 x66_5).f2), .int .i64 ((rd_T68 s0_0 x66_5).f3)] 68 (0, 0))) := ⟨by (with_reducible repeat (first | refine blk_drewN ?_ _ | refine blk_drew ?_ | refine blk_alloc ?_ _)); refine blk_put (cs := #[.int .i64 ((rd_T68 s0_0 x66_5).f0), .int .u64 ((rd_T68 s0_0 x66_5).f1.f0), .int .u64 ((rd_T68 s0_0 x66_5).f1.f1), .int .u64 ((rd_T68 s0_0 x66_5).f1.f2), .int .u64 ((rd_T68 s0_0 x66_5).f1.f3), .int .i64 ((rd_T68 s0_0 x66_5).f2), .int .i64 0]) ?_ 6 _ rfl; (with_reducible repeat (first | refine blk_drewN ?_ _ | refine blk_drew ?_ | refine blk_alloc ?_ _)); refine blk_put (cs := #[.int .i64 ((rd_T68 s0_0 x66_5).f0), .int .u64 ((rd_T68 s0_0 x66_5).f1.f0), .int .u64 ((rd_T68 s0_0 x66_5).f1.f1), .int .u64 ((rd_T68 s0_0 x66_5).f1.f2), .int .u64 ((rd_T68 s0_0 x66_5).f1.f3), .int .i64 0, .int .i64 0]) ?_ 5 _ rfl; (with_reducible repeat (first | refine blk_drewN ?_ _ | refine blk_drew ?_ | refine blk_alloc ?_ _)); refine blk_put (cs := #[.int .i64 ((rd_T68 s0_0 x66_5).f0), .int .u64 ((rd_T68 s0_0 x66_5).f1.f0), .int .u64 ((rd_T68 s0_0 x66_5).f1.f1), .int .u64 ((rd_T68 s0_0 x66_5).f1.f2), .int .u64 0, .int .i64 0, .int .i64 0]) ?_ 4 _ rfl; (with_reducible repeat (first | refine blk_drewN ?_ _ | refine blk_drew ?_ | refine blk_alloc ?_ _)); refine blk_put (cs := #[.int .i64 ((rd_T68 s0_0 x66_5).f0), .int .u64 ((rd_T68 s0_0 x66_5).f1.f0), .int .u64 ((rd_T68 s0_0 x66_5).f1.f1), .int .u64 0, .int .u64 0, .int .i64 0, .int .i64 0]) ?_ 3 _ rfl; (with_reducible repeat (first | refine blk_drewN ?_ _ | refine blk_drew ?_ | refine blk_alloc ?_ _)); refine blk_put (cs := #[.int .i64 ((rd_T68 s0_0 x66_5).f0), .int .u64 ((rd_T68 s0_0 x66_5).f1.f0), .int .u64 0, .int .u64 0, .int .u64 0, .int .i64 0, .int .i64 0]) ?_ 2 _ rfl; (with_reducible repeat (first | refine blk_drewN ?_ _ | refine blk_drew ?_ | refine blk_alloc ?_ _)); refine blk_put (cs := #[.int .i64 ((rd_T68 s0_0 x66_5).f0), .int .u64 0, .int .u64 0, .int .u64 0, .int .u64 0, .int .i64 0, .int .i64 0]) ?_ 1 _ rfl; (with_reducible repeat (first | refine blk_drewN ?_ _ | refine blk_drew ?_ | refine blk_alloc ?_ _)); refine blk_put (cs := #[.int .i64 0, .int .u64 0, .int .u64 0, .int .u64 0, .int .u64 0, .int .i64 0, .int .i64 0]) ?_ 0 _ rfl; (with_reducible repeat (first | refine blk_drewN ?_ _ | refine blk_drew ?_ | refine blk_alloc ?_ _)); exact BK406.out⟩
                     have n3_ : Aside0 (IsS66 w0 (((((((w54.setCell ⟨gb406, 0, none⟩ (.int .i64 ((rd_T68 s0_0 x66_5).f0))).setCell ⟨gb406, 1, none⟩ (.int .u64 ((rd_T68 s0_0 x66_5).f1.f0))).setCell ⟨gb406, 2, none⟩ (.int .u64 ((rd_T68 s0_0 x66_5).f1.f1))).setCell ⟨gb406, 3, none⟩ (.int .u64 ((rd_T68 s0_0 x66_5).f1.f2))).setCell ⟨gb406, 4, none⟩ (.int .u64 ((rd_T68 s0_0 x66_5).f1.f3))).setCell ⟨gb406, 5, none⟩ (.int .i64 ((rd_T68 s0_0 x66_5).f2))).setCell ⟨gb406, 6, none⟩ (.int .i64 ((rd_T68 s0_0 x66_5).f3))) g s0_0 x1001_5) := ⟨by repeat (first | (with_reducible first | exact HI0.out | apply IsS66.alloc | apply IsS66.drewN | apply IsS66.drew | apply IsS66.set_1 | apply IsS66.far (hne := NB0_406.out)) | exact HI0.out)⟩
                     have n4_ : Aside0 (KeepBut w (((((((w54.setCell ⟨gb406, 0, none⟩ (.int .i64 ((rd_T68 s0_0 x66_5).f0))).setCell ⟨gb406, 1, none⟩ (.int .u64 ((rd_T68 s0_0 x66_5).f1.f0))).setCell ⟨gb406, 2, none⟩ (.int .u64 ((rd_T68 s0_0 x66_5).f1.f1))).setCell ⟨gb406, 3, none⟩ (.int .u64 ((rd_T68 s0_0 x66_5).f1.f2))).setCell ⟨gb406, 4, none⟩ (.int .u64 ((rd_T68 s0_0 x66_5).f1.f3))).setCell ⟨gb406, 5, none⟩ (.int .i64 ((rd_T68 s0_0 x66_5).f2))).setCell ⟨gb406, 6, none⟩ (.int .i64 ((rd_T68 s0_0 x66_5).f3))) g none) := ⟨by repeat (first | (with_reducible first | exact HK.out | apply KeepBut.set_ | apply keep_drewN | apply keep_drew | apply keep_alloc | refine keep_far ?_ GW406.out _) | exact HK.out)⟩
                     have n5_ : Aside0 (Below w0.heap.size w0 (((((((w54.setCell ⟨gb406, 0, none⟩ (.int .i64 ((rd_T68 s0_0 x66_5).f0))).setCell ⟨gb406, 1, none⟩ (.int .u64 ((rd_T68 s0_0 x66_5).f1.f0))).setCell ⟨gb406, 2, none⟩ (.int .u64 ((rd_T68 s0_0 x66_5).f1.f1))).setCell ⟨gb406, 3, none⟩ (.int .u64 ((rd_T68 s0_0 x66_5).f1.f2))).setCell ⟨gb406, 4, none⟩ (.int .u64 ((rd_T68 s0_0 x66_5).f1.f3))).setCell ⟨gb406, 5, none⟩ (.int .i64 ((rd_T68 s0_0 x66_5).f2))).setCell ⟨gb406, 6, none⟩ (.int .i64 ((rd_T68 s0_0 x66_5).f3)))) := ⟨by repeat (first | (with_reducible first | exact HB.out | apply below_alloc | apply pw_below_drewN | apply below_drew1 | refine below_set ?_ (IsS66.ge HI0.out) | refine below_set ?_ GE406.out) | exact HB.out)⟩
                     (try clear HO_13)
                     (try clear HO_64)
                     (try clear BK406)
                     (try clear HI0)
                     (try clear HK)
                     (try clear HB)
                     generalize (((((((w54.setCell ⟨gb406, 0, none⟩ (.int .i64 ((rd_T68 s0_0 x66_5).f0))).setCell ⟨gb406, 1, none⟩ (.int .u64 ((rd_T68 s0_0 x66_5).f1.f0))).setCell ⟨gb406, 2, none⟩ (.int .u64 ((rd_T68 s0_0 x66_5).f1.f1))).setCell ⟨gb406, 3, none⟩ (.int .u64 ((rd_T68 s0_0 x66_5).f1.f2))).setCell ⟨gb406, 4, none⟩ (.int .u64 ((rd_T68 s0_0 x66_5).f1.f3))).setCell ⟨gb406, 5, none⟩ (.int .i64 ((rd_T68 s0_0 x66_5).f2))).setCell ⟨gb406, 6, none⟩ (.int .i64 ((rd_T68 s0_0 x66_5).f3))) = w57 at n0_ n1_ n2_ n3_ n4_ n5_ ⊢
                     have HO_13 := n0_
                     have HO_64 := n1_
                     have BK406 := n2_
                     have HI0 := n3_
                     have HK := n4_
                     have HB := n5_
                     clear n0_ n1_ n2_ n3_ n4_ n5_
                     have n0_ := Aside0.mk (Kd.R_drew HO_13.out)
                     have n1_ := Aside0.mk (Kd.R_drew HO_64.out)
                     have n2_ := Aside0.mk (blk_drew BK406.out)
                     have n3_ := Aside0.mk (IsS66.drew HI0.out)
                     have n4_ := Aside0.mk (keep_drew HK.out)
                     have n5_ := Aside0.mk (below_drew1 HB.out)
                     clear HO_13
                     clear HO_64
                     clear BK406
                     clear HI0
                     clear HK
                     clear HB
                     have HO_13 := n0_
                     have HO_64 := n1_
                     have BK406 := n2_
                     have HI0 := n3_
                     have HK := n4_
                     have HB := n5_
                     clear n0_ n1_ n2_ n3_ n4_ n5_
                     refine start_ (n := 20) (S := fun w' => w'.cell? ⟨gb406, 0, none⟩ = some (.int .i64 ((rd_T68 s0_0 x66_5).f0)) ∧ w'.cell? ⟨gb406, 1, none⟩ = some (.int .u64 ((rd_T68 s0_0 x66_5).f1.f0)) ∧ w'.cell? ⟨gb406, 2, none⟩ = some (.int .u64 ((rd_T68 s0_0 x66_5).f1.f1)) ∧ w'.cell? ⟨gb406, 3, none⟩ = some (.int .u64 ((rd_T68 s0_0 x66_5).f1.f2)) ∧ w'.cell? ⟨gb406, 4, none⟩ = some (.int .u64 ((rd_T68 s0_0 x66_5).f1.f3)) ∧ w'.cell? ⟨gb406, 5, none⟩ = some (.int .i64 ((rd_T68 s0_0 x66_5).f2)) ∧ w'.cell? ⟨gb406, 6, none⟩ = some (.int .i64 ((rd_T68 s0_0 x66_5).f3))) (ds := []) #[ff,ff,ff,ff,ff,ff,ff,ff,ff,ff,ff,ff,ff,ff,ff,ff,ff,ff,ff,ff] (by kernel_rfl) rfl rfl ⟨(blk_cell BK406.out 0).trans rfl, (blk_cell BK406.out 1).trans rfl, (blk_cell BK406.out 2).trans rfl, (blk_cell BK406.out 3).trans rfl, (blk_cell BK406.out 4).trans rfl, (blk_cell BK406.out 5).trans rfl, (blk_cell BK406.out 6).trans rfl⟩ (fun hHeld => ?_); refine with_tabW match_Prog_Find.tab17 match_Prog_Find.bits17 (fun HT_ HW_ => ?_)
                     generalize w57.drew = w58 at HO_13 HO_64 BK406 HI0 HK HB hHeld ⊢
                     refine pure_ (i := 0) (N := some 78) (v := ?_) (a' := ?_) #[tt,ff,ff,ff,ff,ff,ff,ff,ff,ff,ff,ff,ff,ff,ff,ff,ff,ff,ff,ff] rfl rfl (any_of HT_.out (by kernel_rfl)) (fun _ _ _ h => h) (Or.inl ⟨by rfl, ?_⟩) ?_ ?_
                     rotate_left
                     ·intro w'
                      go_simp
                      with_reducible rfl
                     rotate_left
                     ·simp only [Act.put, setA, setZ, setS, i64_w, i32_w]
                      rfl
                     refine pure_ (i := 1) (N := some 79) (v := ?_) (a' := ?_) #[tt,tt,ff,ff,ff,ff,ff,ff,ff,ff,ff,ff,ff,ff,ff,ff,ff,ff,ff,ff] rfl rfl (any_of HT_.out (by kernel_rfl)) (fun _ _ _ h => h) (Or.inl ⟨by rfl, ?_⟩) ?_ ?_
                     rotate_left
                     ·intro w'
                      go_simp
                      with_reducible rfl
                     rotate_left
                     ·simp only [Act.put, setA, setZ, setS, i64_w, i32_w]
                      rfl
                     refine pure_ (i := 2) (N := some 80) (v := ?_) (a' := ?_) #[tt,tt,tt,ff,ff,ff,ff,ff,ff,ff,ff,ff,ff,ff,ff,ff,ff,ff,ff,ff] rfl rfl (any_of HT_.out (by kernel_rfl)) (fun _ _ _ h => h) (Or.inl ⟨by rfl, ?_⟩) ?_ ?_
                     rotate_left
                     ·intro w'
                      go_simp
                      with_reducible rfl
                     rotate_left
                     ·simp only [Act.put, setA, setZ, setS, i64_w, i32_w]
                      rfl
                     refine pure_ (i := 3) (N := some 81) (v := ?_) (a' := ?_) #[tt,tt,tt,tt,ff,ff,ff,ff,ff,ff,ff,ff,ff,ff,ff,ff,ff,ff,ff,ff] rfl rfl (any_of HT_.out (by kernel_rfl)) (fun _ _ _ h => h) (Or.inl ⟨by rfl, ?_⟩) ?_ ?_
                     rotate_left
                     ·intro w'
                      go_simp
                      with_reducible rfl
                     rotate_left
                     ·simp only [Act.put, setA, setZ, setS, i64_w, i32_w]
                      rfl
                     refine pure_ (i := 4) (N := some 82) (v := ?_) (a' := ?_) #[tt,tt,tt,tt,tt,ff,ff,ff,ff,ff,ff,ff,ff,ff,ff,ff,ff,ff,ff,ff] rfl rfl (any_of HT_.out (by kernel_rfl)) (fun _ _ _ h => h) (Or.inl ⟨by rfl, ?_⟩) ?_ ?_
                     rotate_left
                     ·intro w'
                      go_simp
                      with_reducible rfl
                     rotate_left
                     ·simp only [Act.put, setA, setZ, setS, i64_w, i32_w]
                      rfl
                     refine pure_ (i := 5) (N := some 83) (v := ?_) (a' := ?_) #[tt,tt,tt,tt,tt,tt,ff,ff,ff,ff,ff,ff,ff,ff,ff,ff,ff,ff,ff,ff] rfl rfl (any_of HT_.out (by kernel_rfl)) (fun _ _ _ h => h) (Or.inl ⟨by rfl, ?_⟩) ?_ ?_
                     rotate_left
                     ·intro w'
                      go_simp
                      with_reducible rfl
                     rotate_left
                     ·simp only [Act.put, setA, setZ, setS, i64_w, i32_w]
                      rfl
                     refine pure_ (i := 6) (N := some 84) (v := ?_) (a' := ?_) #[tt,tt,tt,tt,tt,tt,tt,ff,ff,ff,ff,ff,ff,ff,ff,ff,ff,ff,ff,ff] rfl rfl (any_of HT_.out (by kernel_rfl)) (fun _ _ _ h => h) (Or.inl ⟨by rfl, ?_⟩) ?_ ?_
                     rotate_left
                     ·intro w'
                      go_simp
                      with_reducible rfl
                     rotate_left
                     ·simp only [Act.put, setA, setZ, setS, i64_w, i32_w]
                      rfl
                     refine pure_ (i := 7) (N := some 85) (v := ?_) (a' := ?_) #[tt,tt,tt,tt,tt,tt,tt,tt,ff,ff,ff,ff,ff,ff,ff,ff,ff,ff,ff,ff] rfl rfl (any_of HT_.out (by kernel_rfl)) (fun _ _ _ h => h) (Or.inl ⟨by rfl, ?_⟩) ?_ ?_
                     rotate_left
                     ·intro w'
                      go_simp
                      with_reducible rfl
                     rotate_left
                     ·simp only [Act.put, setA, setZ, setS, i64_w, i32_w]
                      rfl
                     refine pure_ (i := 8) (N := some 86) (v := ?_) (a' := ?_) #[tt,tt,tt,tt,tt,tt,tt,tt,tt,ff,ff,ff,ff,ff,ff,ff,ff,ff,ff,ff] rfl rfl (any_of HT_.out (by kernel_rfl)) (fun _ _ _ h => h) (Or.inl ⟨by rfl, ?_⟩) ?_ ?_
                     rotate_left
                     ·intro w'
                      go_simp
                      with_reducible rfl
                     rotate_left
                     ·simp only [Act.put, setA, setZ, setS, i64_w, i32_w]
                      rfl
                     refine take_ (i := 9) (N := some 87) (v := ?_) (a' := ?_) #[tt,tt,tt,tt,tt,tt,tt,tt,tt,tt,ff,ff,ff,ff,ff,ff,ff,ff,ff,ff] rfl rfl (take_ofW HT_.out HW_.out (by kernel_rfl)) (fun _ _ _ h => h) (Or.inl ⟨by rfl, ?_⟩) hHeld ?_ ?_
                     rotate_left
                     ·rintro w' ⟨s0, s1, s2, s3, s4, s5, s6⟩
                      go_simp
                      with_reducible rfl
                     rotate_left
                     ·simp only [Act.put, setA, setZ, setS, i64_w, i32_w]
                      rfl
                     refine pure_ (i := 10) (N := some 88) (v := ?_) (a' := ?_) #[tt,tt,tt,tt,tt,tt,tt,tt,tt,tt,tt,ff,ff,ff,ff,ff,ff,ff,ff,ff] rfl rfl (any_of HT_.out (by kernel_rfl)) (fun _ _ _ h => h) (Or.inl ⟨by rfl, ?_⟩) ?_ ?_
                     rotate_left
                     ·intro w'
                      go_simp
                      with_reducible rfl
                     rotate_left
                     ·simp only [Act.put, setA, setZ, setS, i64_w, i32_w]
                      rfl
                     refine pure_ (i := 11) (N := some 89) (v := ?_) (a' := ?_) #[tt,tt,tt,tt,tt,tt,tt,tt,tt,tt,tt,tt,ff,ff,ff,ff,ff,ff,ff,ff] rfl rfl (any_of HT_.out (by kernel_rfl)) (fun _ _ _ h => h) (Or.inl ⟨by rfl, ?_⟩) ?_ ?_
                     rotate_left
                     ·intro w'
                      go_simp
                      with_reducible rfl
                     rotate_left
                     ·simp only [Act.put, setA, setZ, setS, i64_w, i32_w]
                      rfl
                     refine pure_ (i := 12) (N := some 90) (v := ?_) (a' := ?_) #[tt,tt,tt,tt,tt,tt,tt,tt,tt,tt,tt,tt,tt,ff,ff,ff,ff,ff,ff,ff] rfl rfl (any_of HT_.out (by kernel_rfl)) (fun _ _ _ h => h) (Or.inl ⟨by rfl, ?_⟩) ?_ ?_
                     rotate_left
                     ·intro w'
                      go_simp
                      with_reducible rfl
                     rotate_left
                     ·simp only [Act.put, setA, setZ, setS, i64_w, i32_w]
                      rfl
                     refine pure_ (i := 13) (N := some 91) (v := undef) (a' := ?_) #[tt,tt,tt,tt,tt,tt,tt,tt,tt,tt,tt,tt,tt,tt,ff,ff,ff,ff,ff,ff] rfl rfl (any_of HT_.out (by kernel_rfl)) (fun _ _ _ h => h) (Or.inr ⟨by rfl, rfl⟩) ?_ ?_
                     rotate_left
                     ·simp only [Act.put, setA, setZ, setS, i64_w, i32_w]
                      rfl
                     refine pure_ (i := 14) (N := some 92) (v := undef) (a' := ?_) #[tt,tt,tt,tt,tt,tt,tt,tt,tt,tt,tt,tt,tt,tt,tt,ff,ff,ff,ff,ff] rfl rfl (any_of HT_.out (by kernel_rfl)) (fun _ _ _ h => h) (Or.inr ⟨by rfl, rfl⟩) ?_ ?_
                     rotate_left
                     ·simp only [Act.put, setA, setZ, setS, i64_w, i32_w]
                      rfl
                     refine pure_ (i := 15) (N := some 93) (v := undef) (a' := ?_) #[tt,tt,tt,tt,tt,tt,tt,tt,tt,tt,tt,tt,tt,tt,tt,tt,ff,ff,ff,ff] rfl rfl (any_of HT_.out (by kernel_rfl)) (fun _ _ _ h => h) (Or.inr ⟨by rfl, rfl⟩) ?_ ?_
                     rotate_left
                     ·simp only [Act.put, setA, setZ, setS, i64_w, i32_w]
                      rfl
                     refine pure_ (i := 16) (N := some 94) (v := undef) (a' := ?_) #[tt,tt,tt,tt,tt,tt,tt,tt,tt,tt,tt,tt,tt,tt,tt,tt,tt,ff,ff,ff] rfl rfl (any_of HT_.out (by kernel_rfl)) (fun _ _ _ h => h) (Or.inr ⟨by rfl, rfl⟩) ?_ ?_
                     rotate_left
                     ·simp only [Act.put, setA, setZ, setS, i64_w, i32_w]
                      rfl
                     refine pure_ (i := 17) (N := some 95) (v := undef) (a' := ?_) #[tt,tt,tt,tt,tt,tt,tt,tt,tt,tt,tt,tt,tt,tt,tt,tt,tt,tt,ff,ff] rfl rfl (any_of HT_.out (by kernel_rfl)) (fun _ _ _ h => h) (Or.inr ⟨by rfl, rfl⟩) ?_ ?_
                     rotate_left
                     ·simp only [Act.put, setA, setZ, setS, i64_w, i32_w]
                      rfl
                     refine pure_ (i := 18) (N := some 96) (v := undef) (a' := ?_) #[tt,tt,tt,tt,tt,tt,tt,tt,tt,tt,tt,tt,tt,tt,tt,tt,tt,tt,tt,ff] rfl rfl (any_of HT_.out (by kernel_rfl)) (fun _ _ _ h => h) (Or.inr ⟨by rfl, rfl⟩) ?_ ?_
                     rotate_left
                     ·simp only [Act.put, setA, setZ, setS, i64_w, i32_w]
                      rfl
                     refine pure_ (i := 19) (N := some 97) (v := ?_) (a' := ?_) #[tt,tt,tt,tt,tt,tt,tt,tt,tt,tt,tt,tt,tt,tt,tt,tt,tt,tt,tt,tt] rfl rfl (any_of HT_.out (by kernel_rfl)) (fun _ _ _ h => h) (Or.inl ⟨by rfl, ?_⟩) ?_ ?_
                     rotate_left
                     ·intro w'
                      go_simp
                      with_reducible rfl
                     rotate_left
                     ·simp only [Act.put, setA, setZ, setS, i64_w, i32_w]
                      rfl
                     refine done_ (done_of HT_.out (by kernel_rfl)) ?_
                     try go_wp2
                     go_roundg k5
                     case measure => have := HJ3.out; have := HK2.out; have := HJ8.out; have := HJ15.out; have := HK5.out; omega
                     case rel => exact ⟨(x13_5), (x14_5), (wrap64 (x66_5 + 1)), (x1001_5), qg1, qg1, H', ⟨by have := HJ3.out; have := HK2.out; have := HJ8.out; have := HJ15.out; have := HK5.out; omega⟩, ⟨by (with_reducible repeat (first | apply Kd.R_alloc | apply Kd.R_drewN | apply Kd.R_drew)); exact HO_13.out⟩, ⟨by (with_reducible repeat (first | apply Kd.R_alloc | apply Kd.R_drewN | apply Kd.R_drew)); exact HO_64.out⟩, ⟨by repeat (first | (with_reducible first | exact HI0.out | apply IsS66.alloc | apply IsS66.drewN | apply IsS66.drew | apply IsS66.set_1 | apply IsS66.far (hne := NB0_406.out)) | exact HI0.out)⟩, ⟨by repeat (first | (with_reducible first | exact HK.out | apply KeepBut.set_ | apply keep_drewN | apply keep_drew | apply keep_alloc | refine keep_far ?_ GW406.out _) | exact HK.out)⟩, ⟨by repeat (first | (with_reducible first | exact HB.out | apply below_alloc | apply pw_below_drewN | apply below_drew1 | refine below_set ?_ (IsS66.ge HI0.out) | refine below_set ?_ GE406.out) | exact HB.out)⟩⟩
                   ·rw [if_neg c28] at H
                    have c28b0 : decide ((rd x11_8 x66_5) < 1099511627776) = false := decide_eq_false c28
                    clear c28
                    have H' := Aside0.mk H
                    clear H
                    have p404 : 0 ≤ (x66_5 : Int) := of_decide_eq_true (by first | (with_reducible assumption) | assumption)
                    have qg404 : x66_5 < (x11_8.length : Int) := of_decide_eq_true (by first | (with_reducible assumption) | assumption)
                    obtain ⟨ad404, e404, hx404_0⟩ := Kd.at_int (Kd.R_reads' HO_64.out).2.2 x66_5 p404 qg404
                    obtain rfl : ad398 = ad404 := (by injection e404)
                    replace p404 := eq_true p404
                    replace qg404 := eq_true qg404
                    obtain ⟨ASz59_0, cSz59_0, HGz59, hgz59, HSz59_0⟩ := HI0.out
                    have hcz59_0 := cellS66_0 HGz59
                    have hcz59_1 := cellS66_1 HGz59
                    have hfz59_1 := blk_frozen HGz59 1
                    clear HGz59 hgz59
                    have p405 : 0 ≤ (x66_5 : Int) := of_decide_eq_true (by first | (with_reducible assumption) | assumption)
                    have qg405 : x66_5 < (s0_0.length : Int) := of_decide_eq_true (by first | (with_reducible assumption) | assumption)
                    obtain ⟨ad405, e405, hx405_0, hx405_1, hx405_2, hx405_3, hx405_4, hx405_5, hx405_6⟩ := at_T68 HSz59_0 x66_5 p405 qg405
                    cases e405
                    replace hx405_0 := pw_cell_below HB.out hx405_0
                    replace hx405_1 := pw_cell_below HB.out hx405_1
                    replace hx405_2 := pw_cell_below HB.out hx405_2
                    replace hx405_3 := pw_cell_below HB.out hx405_3
                    replace hx405_4 := pw_cell_below HB.out hx405_4
                    replace hx405_5 := pw_cell_below HB.out hx405_5
                    replace hx405_6 := pw_cell_below HB.out hx405_6
                    replace p405 := eq_true p405
                    replace qg405 := eq_true qg405
                    try go_wp2_with (first | ((with_reducible refine gate_dst (N := 17) rfl ?_); (try (refine gate_guard (by rfl) ?_; dsimp only)); refine box_event ?hg (N := 17) ?hd (cs := #[.int .i64 0, .int .u64 0, .int .u64 0, .int .u64 0, .int .u64 0, .int .i64 0, .int .i64 0]) (t := 68) ?hr ?_; (case hd => rfl); (case hg => rfl); (case hr => first | (go_simp; done) | (go_simp; rfl)); intro gb406 hg w60 hbox hb; have n0_ := Aside0.mk (Kd.R_below qg4 hb); have n1_ := Aside0.mk (Kd.R_below qg5 hb); have n2_ := Aside0.mk (IsS66.below qg7 hb); have n3_ := Aside0.mk (KeepBut.trans qg0 (KeepBut.of_below hb g none) (.inl rfl)); have n4_ := Aside0.mk (below_step qg3 hb); have n5_ := Aside0.mk (hbox); have n6_ := Aside0.mk ((by rw [hg]; exact (keep_size (w := w) (g := g) (row := none) qg0) : w.heap.size ≤ gb406)); have n7_ := Aside0.mk ((Nat.le_trans HW0.out (by rw [hg]; exact (keep_size (w := w) (g := g) (row := none) qg0) : w.heap.size ≤ gb406) : w0.heap.size ≤ gb406)); have n8_ := Aside0.mk ((by rw [hg]; exact Nat.ne_of_lt (IsS66.lt (show IsS66 w0 _ g s0_0 x1001_5 from by repeat (first | (with_reducible first | exact HI0.out | apply IsS66.alloc | apply IsS66.drewN | apply IsS66.drew | apply IsS66.set_1) | exact HI0.out))) : g ≠ gb406)); have n9_ := Aside0.mk ((by rw [hg]; exact Nat.ne_of_gt (IsS66.lt (show IsS66 w0 _ g s0_0 x1001_5 from by repeat (first | (with_reducible first | exact HI0.out | apply IsS66.alloc | apply IsS66.drewN | apply IsS66.drew | apply IsS66.set_1) | exact HI0.out))) : gb406 ≠ g)); clear HO_13; clear HO_64; clear HI0; clear HK; clear HB; have HO_13 := n0_; have HO_64 := n1_; have HI0 := n2_; have HK := n3_; have HB := n4_; have BK406 := n5_; have GW406 := n6_; have GE406 := n7_; have NB0_406 := n8_; have NB406_0 := n9_; clear n0_ n1_ n2_ n3_ n4_ n5_ n6_ n7_ n8_ n9_; clear hb hbox hg; have hnb61 := NB406_0.out; have hnc61 := NB0_406.out; have hcz62_0 : w60.cell? ⟨gb406, 0, none⟩ = some (.int .i64 0) := (blk_cell BK406.out 0).trans rfl; have hcz62_1 : w60.cell? ⟨gb406, 1, none⟩ = some (.int .u64 0) := (blk_cell BK406.out 1).trans rfl; have hcz62_2 : w60.cell? ⟨gb406, 2, none⟩ = some (.int .u64 0) := (blk_cell BK406.out 2).trans rfl; have hcz62_3 : w60.cell? ⟨gb406, 3, none⟩ = some (.int .u64 0) := (blk_cell BK406.out 3).trans rfl; have hcz62_4 : w60.cell? ⟨gb406, 4, none⟩ = some (.int .u64 0) := (blk_cell BK406.out 4).trans rfl; have hcz62_5 : w60.cell? ⟨gb406, 5, none⟩ = some (.int .i64 0) := (blk_cell BK406.out 5).trans rfl; have hcz62_6 : w60.cell? ⟨gb406, 6, none⟩ = some (.int .i64 0) := (blk_cell BK406.out 6).trans rfl; have hfz62_0 := blk_frozen BK406.out 0; have hfz62_1 := blk_frozen BK406.out 1; have hfz62_2 := blk_frozen BK406.out 2; have hfz62_3 := blk_frozen BK406.out 3; have hfz62_4 := blk_frozen BK406.out 4; have hfz62_5 := blk_frozen BK406.out 5; have hfz62_6 := blk_frozen BK406.out 6))
                    have n0_ : Aside0 (Kd.R (Kd.int .i64) 3 (((((((w60.setCell ⟨gb406, 0, none⟩ (.int .i64 ((rd_T68 s0_0 x66_5).f0))).setCell ⟨gb406, 1, none⟩ (.int .u64 ((rd_T68 s0_0 x66_5).f1.f0))).setCell ⟨gb406, 2, none⟩ (.int .u64 ((rd_T68 s0_0 x66_5).f1.f1))).setCell ⟨gb406, 3, none⟩ (.int .u64 ((rd_T68 s0_0 x66_5).f1.f2))).setCell ⟨gb406, 4, none⟩ (.int .u64 ((rd_T68 s0_0 x66_5).f1.f3))).setCell ⟨gb406, 5, none⟩ (.int .i64 ((rd_T68 s0_0 x66_5).f2))).setCell ⟨gb406, 6, none⟩ (.int .i64 ((rd_T68 s0_0 x66_5).f3))) w.heap.size (fun k_ => some k_ ≠ (.slice (some ad398) x11_8.length co17 : Value).ownBlock) v401 x13_5) := ⟨by (with_reducible repeat (first | apply Kd.R_alloc | apply Kd.R_drewN | apply Kd.R_drew)); exact Kd.R_mono (Kd.R_far (p := ⟨gb406, 6, none⟩) (Kd.R_far (p := ⟨gb406, 5, none⟩) (Kd.R_far (p := ⟨gb406, 4, none⟩) (Kd.R_far (p := ⟨gb406, 3, none⟩) (Kd.R_far (p := ⟨gb406, 2, none⟩) (Kd.R_far (p := ⟨gb406, 1, none⟩) (Kd.R_far (p := ⟨gb406, 0, none⟩) (Kd.R_types HO_13.out BK406.out (by decide)) (fun _ hk => hk.2) (.int .i64 ((rd_T68 s0_0 x66_5).f0))) (fun _ hk => hk.2) (.int .u64 ((rd_T68 s0_0 x66_5).f1.f0))) (fun _ hk => hk.2) (.int .u64 ((rd_T68 s0_0 x66_5).f1.f1))) (fun _ hk => hk.2) (.int .u64 ((rd_T68 s0_0 x66_5).f1.f2))) (fun _ hk => hk.2) (.int .u64 ((rd_T68 s0_0 x66_5).f1.f3))) (fun _ hk => hk.2) (.int .i64 ((rd_T68 s0_0 x66_5).f2))) (fun _ hk => hk.2) (.int .i64 ((rd_T68 s0_0 x66_5).f3))) (fun _ hk => hk.1)⟩
                    have n1_ : Aside0 (Kd.R (Kd.int .i64) 3 (((((((w60.setCell ⟨gb406, 0, none⟩ (.int .i64 ((rd_T68 s0_0 x66_5).f0))).setCell ⟨gb406, 1, none⟩ (.int .u64 ((rd_T68 s0_0 x66_5).f1.f0))).setCell ⟨gb406, 2, none⟩ (.int .u64 ((rd_T68 s0_0 x66_5).f1.f1))).setCell ⟨gb406, 3, none⟩ (.int .u64 ((rd_T68 s0_0 x66_5).f1.f2))).setCell ⟨gb406, 4, none⟩ (.int .u64 ((rd_T68 s0_0 x66_5).f1.f3))).setCell ⟨gb406, 5, none⟩ (.int .i64 ((rd_T68 s0_0 x66_5).f2))).setCell ⟨gb406, 6, none⟩ (.int .i64 ((rd_T68 s0_0 x66_5).f3))) w.heap.size (fun k_ => some k_ ≠ (v401 : Value).ownBlock) (.slice (some ad398) x11_8.length co17) x11_8) := ⟨by (with_reducible repeat (first | apply Kd.R_alloc | apply Kd.R_drewN | apply Kd.R_drew)); exact Kd.R_mono (Kd.R_far (p := ⟨gb406, 6, none⟩) (Kd.R_far (p := ⟨gb406, 5, none⟩) (Kd.R_far (p := ⟨gb406, 4, none⟩) (Kd.R_far (p := ⟨gb406, 3, none⟩) (Kd.R_far (p := ⟨gb406, 2, none⟩) (Kd.R_far (p := ⟨gb406, 1, none⟩) (Kd.R_far (p := ⟨gb406, 0, none⟩) (Kd.R_types HO_64.out BK406.out (by decide)) (fun _ hk => hk.2) (.int .i64 ((rd_T68 s0_0 x66_5).f0))) (fun _ hk => hk.2) (.int .u64 ((rd_T68 s0_0 x66_5).f1.f0))) (fun _ hk => hk.2) (.int .u64 ((rd_T68 s0_0 x66_5).f1.f1))) (fun _ hk => hk.2) (.int .u64 ((rd_T68 s0_0 x66_5).f1.f2))) (fun _ hk => hk.2) (.int .u64 ((rd_T68 s0_0 x66_5).f1.f3))) (fun _ hk => hk.2) (.int .i64 ((rd_T68 s0_0 x66_5).f2))) (fun _ hk => hk.2) (.int .i64 ((rd_T68 s0_0 x66_5).f3))) (fun _ hk => hk.1)⟩
                    have n2_ : Aside0 ((((((((w60.setCell ⟨gb406, 0, none⟩ (.int .i64 ((rd_T68 s0_0 x66_5).f0))).setCell ⟨gb406, 1, none⟩ (.int .u64 ((rd_T68 s0_0 x66_5).f1.f0))).setCell ⟨gb406, 2, none⟩ (.int .u64 ((rd_T68 s0_0 x66_5).f1.f1))).setCell ⟨gb406, 3, none⟩ (.int .u64 ((rd_T68 s0_0 x66_5).f1.f2))).setCell ⟨gb406, 4, none⟩ (.int .u64 ((rd_T68 s0_0 x66_5).f1.f3))).setCell ⟨gb406, 5, none⟩ (.int .i64 ((rd_T68 s0_0 x66_5).f2))).setCell ⟨gb406, 6, none⟩ (.int .i64 ((rd_T68 s0_0 x66_5).f3))).heap[gb406]? = some (.cells #[.int .i64 ((rd_T68 s0_0 x66_5).f0), .int .u64 ((rd_T68 s0_0 x66_5).f1.f0), .int .u64 ((rd_T68 s0_0 x66_5).f1.f1), .int .u64 ((rd_T68 s0_0 x66_5).f1.f2), .int .u64 ((rd_T68 s0_0 x66_5).f1.f3), .int .i64 ((rd_T68 s0_0 x66_5).f2), .int .i64 ((rd_T68 s0_0 x66_5).f3)] 68 (0, 0))) := ⟨by (with_reducible repeat (first | refine blk_drewN ?_ _ | refine blk_drew ?_ | refine blk_alloc ?_ _)); refine blk_put (cs := #[.int .i64 ((rd_T68 s0_0 x66_5).f0), .int .u64 ((rd_T68 s0_0 x66_5).f1.f0), .int .u64 ((rd_T68 s0_0 x66_5).f1.f1), .int .u64 ((rd_T68 s0_0 x66_5).f1.f2), .int .u64 ((rd_T68 s0_0 x66_5).f1.f3), .int .i64 ((rd_T68 s0_0 x66_5).f2), .int .i64 0]) ?_ 6 _ rfl; (with_reducible repeat (first | refine blk_drewN ?_ _ | refine blk_drew ?_ | refine blk_alloc ?_ _)); refine blk_put (cs := #[.int .i64 ((rd_T68 s0_0 x66_5).f0), .int .u64 ((rd_T68 s0_0 x66_5).f1.f0), .int .u64 ((rd_T68 s0_0 x66_5).f1.f1), .int .u64 ((rd_T68 s0_0 x66_5).f1.f2), .int .u64 ((rd_T68 s0_0 x66_5).f1.f3), .int .i64 0, .int .i64 0]) ?_ 5 _ rfl; (with_reducible repeat (first | refine blk_drewN ?_ _ | refine blk_drew ?_ | refine blk_alloc ?_ _)); refine blk_put (cs := #[.int .i64 ((rd_T68 s0_0 x66_5).f0), .int .u64 ((rd_T68 s0_0 x66_5).f1.f0), .int .u64 ((rd_T68 s0_0 x66_5).f1.f1), .int .u64 ((rd_T68 s0_0 x66_5).f1.f2), .int .u64 0, .int .i64 0, .int .i64 0]) ?_ 4 _ rfl; (with_reducible repeat (first | refine blk_drewN ?_ _ | refine blk_drew ?_ | refine blk_alloc ?_ _)); refine blk_put (cs := #[.int .i64 ((rd_T68 s0_0 x66_5).f0), .int .u64 ((rd_T68 s0_0 x66_5).f1.f0), .int .u64 ((rd_T68 s0_0 x66_5).f1.f1), .int .u64 0, .int .u64 0, .int .i64 0, .int .i64 0]) ?_ 3 _ rfl; (with_reducible repeat (first | refine blk_drewN ?_ _ | refine blk_drew ?_ | refine blk_alloc ?_ _)); refine blk_put (cs := #[.int .i64 ((rd_T68 s0_0 x66_5).f0), .int .u64 ((rd_T68 s0_0 x66_5).f1.f0), .int .u64 0, .int .u64 0, .int .u64 0, .int .i64 0, .int .i64 0]) ?_ 2 _ rfl; (with_reducible repeat (first | refine blk_drewN ?_ _ | refine blk_drew ?_ | refine blk_alloc ?_ _)); refine blk_put (cs := #[.int .i64 ((rd_T68 s0_0 x66_5).f0), .int .u64 0, .int .u64 0, .int .u64 0, .int .u64 0, .int .i64 0, .int .i64 0]) ?_ 1 _ rfl; (with_reducible repeat (first | refine blk_drewN ?_ _ | refine blk_drew ?_ | refine blk_alloc ?_ _)); refine blk_put (cs := #[.int .i64 0, .int .u64 0, .int .u64 0, .int .u64 0, .int .u64 0, .int .i64 0, .int .i64 0]) ?_ 0 _ rfl; (with_reducible repeat (first | refine blk_drewN ?_ _ | refine blk_drew ?_ | refine blk_alloc ?_ _)); exact BK406.out⟩
                    have n3_ : Aside0 (IsS66 w0 (((((((w60.setCell ⟨gb406, 0, none⟩ (.int .i64 ((rd_T68 s0_0 x66_5).f0))).setCell ⟨gb406, 1, none⟩ (.int .u64 ((rd_T68 s0_0 x66_5).f1.f0))).setCell ⟨gb406, 2, none⟩ (.int .u64 ((rd_T68 s0_0 x66_5).f1.f1))).setCell ⟨gb406, 3, none⟩ (.int .u64 ((rd_T68 s0_0 x66_5).f1.f2))).setCell ⟨gb406, 4, none⟩ (.int .u64 ((rd_T68 s0_0 x66_5).f1.f3))).setCell ⟨gb406, 5, none⟩ (.int .i64 ((rd_T68 s0_0 x66_5).f2))).setCell ⟨gb406, 6, none⟩ (.int .i64 ((rd_T68 s0_0 x66_5).f3))) g s0_0 x1001_5) := ⟨by repeat (first | (with_reducible first | exact HI0.out | apply IsS66.alloc | apply IsS66.drewN | apply IsS66.drew | apply IsS66.set_1 | apply IsS66.far (hne := NB0_406.out)) | exact HI0.out)⟩
                    have n4_ : Aside0 (KeepBut w (((((((w60.setCell ⟨gb406, 0, none⟩ (.int .i64 ((rd_T68 s0_0 x66_5).f0))).setCell ⟨gb406, 1, none⟩ (.int .u64 ((rd_T68 s0_0 x66_5).f1.f0))).setCell ⟨gb406, 2, none⟩ (.int .u64 ((rd_T68 s0_0 x66_5).f1.f1))).setCell ⟨gb406, 3, none⟩ (.int .u64 ((rd_T68 s0_0 x66_5).f1.f2))).setCell ⟨gb406, 4, none⟩ (.int .u64 ((rd_T68 s0_0 x66_5).f1.f3))).setCell ⟨gb406, 5, none⟩ (.int .i64 ((rd_T68 s0_0 x66_5).f2))).setCell ⟨gb406, 6, none⟩ (.int .i64 ((rd_T68 s0_0 x66_5).f3))) g none) := ⟨by repeat (first | (with_reducible first | exact HK.out | apply KeepBut.set_ | apply keep_drewN | apply keep_drew | apply keep_alloc | refine keep_far ?_ GW406.out _) | exact HK.out)⟩
                    have n5_ : Aside0 (Below w0.heap.size w0 (((((((w60.setCell ⟨gb406, 0, none⟩ (.int .i64 ((rd_T68 s0_0 x66_5).f0))).setCell ⟨gb406, 1, none⟩ (.int .u64 ((rd_T68 s0_0 x66_5).f1.f0))).setCell ⟨gb406, 2, none⟩ (.int .u64 ((rd_T68 s0_0 x66_5).f1.f1))).setCell ⟨gb406, 3, none⟩ (.int .u64 ((rd_T68 s0_0 x66_5).f1.f2))).setCell ⟨gb406, 4, none⟩ (.int .u64 ((rd_T68 s0_0 x66_5).f1.f3))).setCell ⟨gb406, 5, none⟩ (.int .i64 ((rd_T68 s0_0 x66_5).f2))).setCell ⟨gb406, 6, none⟩ (.int .i64 ((rd_T68 s0_0 x66_5).f3)))) := ⟨by repeat (first | (with_reducible first | exact HB.out | apply below_alloc | apply pw_below_drewN | apply below_drew1 | refine below_set ?_ (IsS66.ge HI0.out) | refine below_set ?_ GE406.out) | exact HB.out)⟩
                    (try clear HO_13)
                    (try clear HO_64)
                    (try clear BK406)
                    (try clear HI0)
                    (try clear HK)
                    (try clear HB)
                    generalize (((((((w60.setCell ⟨gb406, 0, none⟩ (.int .i64 ((rd_T68 s0_0 x66_5).f0))).setCell ⟨gb406, 1, none⟩ (.int .u64 ((rd_T68 s0_0 x66_5).f1.f0))).setCell ⟨gb406, 2, none⟩ (.int .u64 ((rd_T68 s0_0 x66_5).f1.f1))).setCell ⟨gb406, 3, none⟩ (.int .u64 ((rd_T68 s0_0 x66_5).f1.f2))).setCell ⟨gb406, 4, none⟩ (.int .u64 ((rd_T68 s0_0 x66_5).f1.f3))).setCell ⟨gb406, 5, none⟩ (.int .i64 ((rd_T68 s0_0 x66_5).f2))).setCell ⟨gb406, 6, none⟩ (.int .i64 ((rd_T68 s0_0 x66_5).f3))) = w63 at n0_ n1_ n2_ n3_ n4_ n5_ ⊢
                    have HO_13 := n0_
                    have HO_64 := n1_
                    have BK406 := n2_
                    have HI0 := n3_
                    have HK := n4_
                    have HB := n5_
                    clear n0_ n1_ n2_ n3_ n4_ n5_
                    have n0_ := Aside0.mk (Kd.R_drew HO_13.out)
                    have n1_ := Aside0.mk (Kd.R_drew HO_64.out)
                    have n2_ := Aside0.mk (blk_drew BK406.out)
                    have n3_ := Aside0.mk (IsS66.drew HI0.out)
                    have n4_ := Aside0.mk (keep_drew HK.out)
                    have n5_ := Aside0.mk (below_drew1 HB.out)
                    clear HO_13
                    clear HO_64
                    clear BK406
                    clear HI0
                    clear HK
                    clear HB
                    have HO_13 := n0_
                    have HO_64 := n1_
                    have BK406 := n2_
                    have HI0 := n3_
                    have HK := n4_
                    have HB := n5_
                    clear n0_ n1_ n2_ n3_ n4_ n5_
                    refine start_ (n := 20) (S := fun w' => True) (ds := []) #[ff,ff,ff,ff,ff,ff,ff,ff,ff,ff,ff,ff,ff,ff,ff,ff,ff,ff,ff,ff] (by kernel_rfl) rfl rfl trivial (fun hHeld => ?_); refine with_tabW match_Prog_Find.tab17 match_Prog_Find.bits17 (fun HT_ HW_ => ?_)
                    generalize w63.drew = w64 at HO_13 HO_64 BK406 HI0 HK HB hHeld ⊢
                    refine pure_ (i := 0) (N := some 78) (v := ?_) (a' := ?_) #[tt,ff,ff,ff,ff,ff,ff,ff,ff,ff,ff,ff,ff,ff,ff,ff,ff,ff,ff,ff] rfl rfl (any_of HT_.out (by kernel_rfl)) (fun _ _ _ h => h) (Or.inl ⟨by rfl, ?_⟩) ?_ ?_
                    rotate_left
                    ·intro w'
                     go_simp
                     with_reducible rfl
                    rotate_left
                    ·simp only [Act.put, setA, setZ, setS, i64_w, i32_w]
                     rfl
                    refine pure_ (i := 1) (N := some 79) (v := ?_) (a' := ?_) #[tt,tt,ff,ff,ff,ff,ff,ff,ff,ff,ff,ff,ff,ff,ff,ff,ff,ff,ff,ff] rfl rfl (any_of HT_.out (by kernel_rfl)) (fun _ _ _ h => h) (Or.inl ⟨by rfl, ?_⟩) ?_ ?_
                    rotate_left
                    ·intro w'
                     go_simp
                     with_reducible rfl
                    rotate_left
                    ·simp only [Act.put, setA, setZ, setS, i64_w, i32_w]
                     rfl
                    refine pure_ (i := 2) (N := some 80) (v := ?_) (a' := ?_) #[tt,tt,tt,ff,ff,ff,ff,ff,ff,ff,ff,ff,ff,ff,ff,ff,ff,ff,ff,ff] rfl rfl (any_of HT_.out (by kernel_rfl)) (fun _ _ _ h => h) (Or.inl ⟨by rfl, ?_⟩) ?_ ?_
                    rotate_left
                    ·intro w'
                     go_simp
                     with_reducible rfl
                    rotate_left
                    ·simp only [Act.put, setA, setZ, setS, i64_w, i32_w]
                     rfl
                    refine pure_ (i := 3) (N := some 81) (v := ?_) (a' := ?_) #[tt,tt,tt,tt,ff,ff,ff,ff,ff,ff,ff,ff,ff,ff,ff,ff,ff,ff,ff,ff] rfl rfl (any_of HT_.out (by kernel_rfl)) (fun _ _ _ h => h) (Or.inl ⟨by rfl, ?_⟩) ?_ ?_
                    rotate_left
                    ·intro w'
                     go_simp
                     with_reducible rfl
                    rotate_left
                    ·simp only [Act.put, setA, setZ, setS, i64_w, i32_w]
                     rfl
                    refine pure_ (i := 4) (N := some 82) (v := ?_) (a' := ?_) #[tt,tt,tt,tt,tt,ff,ff,ff,ff,ff,ff,ff,ff,ff,ff,ff,ff,ff,ff,ff] rfl rfl (any_of HT_.out (by kernel_rfl)) (fun _ _ _ h => h) (Or.inl ⟨by rfl, ?_⟩) ?_ ?_
                    rotate_left
                    ·intro w'
                     go_simp
                     with_reducible rfl
                    rotate_left
                    ·simp only [Act.put, setA, setZ, setS, i64_w, i32_w]
                     rfl
                    refine pure_ (i := 5) (N := some 83) (v := ?_) (a' := ?_) #[tt,tt,tt,tt,tt,tt,ff,ff,ff,ff,ff,ff,ff,ff,ff,ff,ff,ff,ff,ff] rfl rfl (any_of HT_.out (by kernel_rfl)) (fun _ _ _ h => h) (Or.inl ⟨by rfl, ?_⟩) ?_ ?_
                    rotate_left
                    ·intro w'
                     go_simp
                     with_reducible rfl
                    rotate_left
                    ·simp only [Act.put, setA, setZ, setS, i64_w, i32_w]
                     rfl
                    refine pure_ (i := 6) (N := some 84) (v := ?_) (a' := ?_) #[tt,tt,tt,tt,tt,tt,tt,ff,ff,ff,ff,ff,ff,ff,ff,ff,ff,ff,ff,ff] rfl rfl (any_of HT_.out (by kernel_rfl)) (fun _ _ _ h => h) (Or.inl ⟨by rfl, ?_⟩) ?_ ?_
                    rotate_left
                    ·intro w'
                     go_simp
                     with_reducible rfl
                    rotate_left
                    ·simp only [Act.put, setA, setZ, setS, i64_w, i32_w]
                     rfl
                    refine pure_ (i := 7) (N := some 85) (v := ?_) (a' := ?_) #[tt,tt,tt,tt,tt,tt,tt,tt,ff,ff,ff,ff,ff,ff,ff,ff,ff,ff,ff,ff] rfl rfl (any_of HT_.out (by kernel_rfl)) (fun _ _ _ h => h) (Or.inl ⟨by rfl, ?_⟩) ?_ ?_
                    rotate_left
                    ·intro w'
                     go_simp
                     with_reducible rfl
                    rotate_left
                    ·simp only [Act.put, setA, setZ, setS, i64_w, i32_w]
                     rfl
                    refine pure_ (i := 8) (N := some 86) (v := undef) (a' := ?_) #[tt,tt,tt,tt,tt,tt,tt,tt,tt,ff,ff,ff,ff,ff,ff,ff,ff,ff,ff,ff] rfl rfl (any_of HT_.out (by kernel_rfl)) (fun _ _ _ h => h) (Or.inr ⟨by rfl, rfl⟩) ?_ ?_
                    rotate_left
                    ·simp only [Act.put, setA, setZ, setS, i64_w, i32_w]
                     rfl
                    refine pure_ (i := 9) (N := some 87) (v := undef) (a' := ?_) #[tt,tt,tt,tt,tt,tt,tt,tt,tt,tt,ff,ff,ff,ff,ff,ff,ff,ff,ff,ff] rfl rfl (any_of HT_.out (by kernel_rfl)) (fun _ _ _ h => h) (Or.inr ⟨by rfl, rfl⟩) ?_ ?_
                    rotate_left
                    ·simp only [Act.put, setA, setZ, setS, i64_w, i32_w]
                     rfl
                    refine pure_ (i := 10) (N := some 88) (v := undef) (a' := ?_) #[tt,tt,tt,tt,tt,tt,tt,tt,tt,tt,tt,ff,ff,ff,ff,ff,ff,ff,ff,ff] rfl rfl (any_of HT_.out (by kernel_rfl)) (fun _ _ _ h => h) (Or.inr ⟨by rfl, rfl⟩) ?_ ?_
                    rotate_left
                    ·simp only [Act.put, setA, setZ, setS, i64_w, i32_w]
                     rfl
                    refine pure_ (i := 11) (N := some 89) (v := ?_) (a' := ?_) #[tt,tt,tt,tt,tt,tt,tt,tt,tt,tt,tt,tt,ff,ff,ff,ff,ff,ff,ff,ff] rfl rfl (any_of HT_.out (by kernel_rfl)) (fun _ _ _ h => h) (Or.inl ⟨by rfl, ?_⟩) ?_ ?_
                    rotate_left
                    ·intro w'
                     go_simp
                     with_reducible rfl
                    rotate_left
                    ·simp only [Act.put, setA, setZ, setS, i64_w, i32_w]
                     rfl
                    refine pure_ (i := 12) (N := some 90) (v := ?_) (a' := ?_) #[tt,tt,tt,tt,tt,tt,tt,tt,tt,tt,tt,tt,tt,ff,ff,ff,ff,ff,ff,ff] rfl rfl (any_of HT_.out (by kernel_rfl)) (fun _ _ _ h => h) (Or.inl ⟨by rfl, ?_⟩) ?_ ?_
                    rotate_left
                    ·intro w'
                     go_simp
                     with_reducible rfl
                    rotate_left
                    ·simp only [Act.put, setA, setZ, setS, i64_w, i32_w]
                     rfl
                    refine pure_ (i := 13) (N := some 91) (v := undef) (a' := ?_) #[tt,tt,tt,tt,tt,tt,tt,tt,tt,tt,tt,tt,tt,tt,ff,ff,ff,ff,ff,ff] rfl rfl (any_of HT_.out (by kernel_rfl)) (fun _ _ _ h => h) (Or.inr ⟨by rfl, rfl⟩) ?_ ?_
                    rotate_left
                    ·simp only [Act.put, setA, setZ, setS, i64_w, i32_w]
                     rfl
                    refine pure_ (i := 14) (N := some 92) (v := undef) (a' := ?_) #[tt,tt,tt,tt,tt,tt,tt,tt,tt,tt,tt,tt,tt,tt,tt,ff,ff,ff,ff,ff] rfl rfl (any_of HT_.out (by kernel_rfl)) (fun _ _ _ h => h) (Or.inr ⟨by rfl, rfl⟩) ?_ ?_
                    rotate_left
                    ·simp only [Act.put, setA, setZ, setS, i64_w, i32_w]
                     rfl
                    refine pure_ (i := 15) (N := some 93) (v := undef) (a' := ?_) #[tt,tt,tt,tt,tt,tt,tt,tt,tt,tt,tt,tt,tt,tt,tt,tt,ff,ff,ff,ff] rfl rfl (any_of HT_.out (by kernel_rfl)) (fun _ _ _ h => h) (Or.inr ⟨by rfl, rfl⟩) ?_ ?_
                    rotate_left
                    ·simp only [Act.put, setA, setZ, setS, i64_w, i32_w]
                     rfl
                    refine pure_ (i := 16) (N := some 94) (v := undef) (a' := ?_) #[tt,tt,tt,tt,tt,tt,tt,tt,tt,tt,tt,tt,tt,tt,tt,tt,tt,ff,ff,ff] rfl rfl (any_of HT_.out (by kernel_rfl)) (fun _ _ _ h => h) (Or.inr ⟨by rfl, rfl⟩) ?_ ?_
                    rotate_left
                    ·simp only [Act.put, setA, setZ, setS, i64_w, i32_w]
                     rfl
                    refine pure_ (i := 17) (N := some 95) (v := undef) (a' := ?_) #[tt,tt,tt,tt,tt,tt,tt,tt,tt,tt,tt,tt,tt,tt,tt,tt,tt,tt,ff,ff] rfl rfl (any_of HT_.out (by kernel_rfl)) (fun _ _ _ h => h) (Or.inr ⟨by rfl, rfl⟩) ?_ ?_
                    rotate_left
                    ·simp only [Act.put, setA, setZ, setS, i64_w, i32_w]
                     rfl
                    refine pure_ (i := 18) (N := some 96) (v := undef) (a' := ?_) #[tt,tt,tt,tt,tt,tt,tt,tt,tt,tt,tt,tt,tt,tt,tt,tt,tt,tt,tt,ff] rfl rfl (any_of HT_.out (by kernel_rfl)) (fun _ _ _ h => h) (Or.inr ⟨by rfl, rfl⟩) ?_ ?_
                    rotate_left
                    ·simp only [Act.put, setA, setZ, setS, i64_w, i32_w]
                     rfl
                    refine pure_ (i := 19) (N := some 97) (v := ?_) (a' := ?_) #[tt,tt,tt,tt,tt,tt,tt,tt,tt,tt,tt,tt,tt,tt,tt,tt,tt,tt,tt,tt] rfl rfl (any_of HT_.out (by kernel_rfl)) (fun _ _ _ h => h) (Or.inl ⟨by rfl, ?_⟩) ?_ ?_
                    rotate_left
                    ·intro w'
                     go_simp
                     with_reducible rfl
                    rotate_left
                    ·simp only [Act.put, setA, setZ, setS, i64_w, i32_w]
                     rfl
                    refine done_ (done_of HT_.out (by kernel_rfl)) ?_
                    try go_wp2
                    go_roundg k5
                    case measure => have := HJ3.out; have := HK2.out; have := HJ8.out; have := HJ15.out; have := HK5.out; omega
                    case rel => exact ⟨(x13_5), (x14_5), (wrap64 (x66_5 + 1)), (x1001_5), qg1, qg1, H', ⟨by have := HJ3.out; have := HK2.out; have := HJ8.out; have := HJ15.out; have := HK5.out; omega⟩, ⟨by (with_reducible repeat (first | apply Kd.R_alloc | apply Kd.R_drewN | apply Kd.R_drew)); exact HO_13.out⟩, ⟨by (with_reducible repeat (first | apply Kd.R_alloc | apply Kd.R_drewN | apply Kd.R_drew)); exact HO_64.out⟩, ⟨by repeat (first | (with_reducible first | exact HI0.out | apply IsS66.alloc | apply IsS66.drewN | apply IsS66.drew | apply IsS66.set_1 | apply IsS66.far (hne := NB0_406.out)) | exact HI0.out)⟩, ⟨by repeat (first | (with_reducible first | exact HK.out | apply KeepBut.set_ | apply keep_drewN | apply keep_drew | apply keep_alloc | refine keep_far ?_ GW406.out _) | exact HK.out)⟩, ⟨by repeat (first | (with_reducible first | exact HB.out | apply below_alloc | apply pw_below_drewN | apply below_drew1 | refine below_set ?_ (IsS66.ge HI0.out) | refine below_set ?_ GE406.out) | exact HB.out)⟩⟩
                  ·rw [if_neg c27] at H
                   have c27b0 : decide ((rd x11_8 x66_5) ≤ x9_15) = false := decide_eq_false c27
                   clear c27
                   have H' := Aside0.mk H
                   clear H
                   have p404 : 0 ≤ (x66_5 : Int) := of_decide_eq_true (by first | (with_reducible assumption) | assumption)
                   have qg404 : x66_5 < (x11_8.length : Int) := of_decide_eq_true (by first | (with_reducible assumption) | assumption)
                   obtain ⟨ad404, e404, hx404_0⟩ := Kd.at_int (Kd.R_reads' HO_64.out).2.2 x66_5 p404 qg404
                   obtain rfl : ad398 = ad404 := (by injection e404)
                   replace p404 := eq_true p404
                   replace qg404 := eq_true qg404
                   obtain ⟨ASz65_0, cSz65_0, HGz65, hgz65, HSz65_0⟩ := HI0.out
                   have hcz65_0 := cellS66_0 HGz65
                   have hcz65_1 := cellS66_1 HGz65
                   have hfz65_1 := blk_frozen HGz65 1
                   clear HGz65 hgz65
                   have p405 : 0 ≤ (x66_5 : Int) := of_decide_eq_true (by first | (with_reducible assumption) | assumption)
                   have qg405 : x66_5 < (s0_0.length : Int) := of_decide_eq_true (by first | (with_reducible assumption) | assumption)
                   obtain ⟨ad405, e405, hx405_0, hx405_1, hx405_2, hx405_3, hx405_4, hx405_5, hx405_6⟩ := at_T68 HSz65_0 x66_5 p405 qg405
                   cases e405
                   replace hx405_0 := pw_cell_below HB.out hx405_0
                   replace hx405_1 := pw_cell_below HB.out hx405_1
                   replace hx405_2 := pw_cell_below HB.out hx405_2
                   replace hx405_3 := pw_cell_below HB.out hx405_3
                   replace hx405_4 := pw_cell_below HB.out hx405_4
                   replace hx405_5 := pw_cell_below HB.out hx405_5
                   replace hx405_6 := pw_cell_below HB.out hx405_6
                   replace p405 := eq_true p405
                   replace qg405 := eq_true qg405
                   try go_wp2_with (first | ((with_reducible refine gate_dst (N := 17) rfl ?_); (try (refine gate_guard (by rfl) ?_; dsimp only)); refine box_event ?hg (N := 17) ?hd (cs := #[.int .i64 0, .int .u64 0, .int .u64 0, .int .u64 0, .int .u64 0, .int .i64 0, .int .i64 0]) (t := 68) ?hr ?_; (case hd => rfl); (case hg => rfl); (case hr => first | (go_simp; done) | (go_simp; rfl)); intro gb406 hg w66 hbox hb; have n0_ := Aside0.mk (Kd.R_below qg4 hb); have n1_ := Aside0.mk (Kd.R_below qg5 hb); have n2_ := Aside0.mk (IsS66.below qg7 hb); have n3_ := Aside0.mk (KeepBut.trans qg0 (KeepBut.of_below hb g none) (.inl rfl)); have n4_ := Aside0.mk (below_step qg3 hb); have n5_ := Aside0.mk (hbox); have n6_ := Aside0.mk ((by rw [hg]; exact (keep_size (w := w) (g := g) (row := none) qg0) : w.heap.size ≤ gb406)); have n7_ := Aside0.mk ((Nat.le_trans HW0.out (by rw [hg]; exact (keep_size (w := w) (g := g) (row := none) qg0) : w.heap.size ≤ gb406) : w0.heap.size ≤ gb406)); have n8_ := Aside0.mk ((by rw [hg]; exact Nat.ne_of_lt (IsS66.lt (show IsS66 w0 _ g s0_0 x1001_5 from by repeat (first | (with_reducible first | exact HI0.out | apply IsS66.alloc | apply IsS66.drewN | apply IsS66.drew | apply IsS66.set_1) | exact HI0.out))) : g ≠ gb406)); have n9_ := Aside0.mk ((by rw [hg]; exact Nat.ne_of_gt (IsS66.lt (show IsS66 w0 _ g s0_0 x1001_5 from by repeat (first | (with_reducible first | exact HI0.out | apply IsS66.alloc | apply IsS66.drewN | apply IsS66.drew | apply IsS66.set_1) | exact HI0.out))) : gb406 ≠ g)); clear HO_13; clear HO_64; clear HI0; clear HK; clear HB; have HO_13 := n0_; have HO_64 := n1_; have HI0 := n2_; have HK := n3_; have HB := n4_; have BK406 := n5_; have GW406 := n6_; have GE406 := n7_; have NB0_406 := n8_; have NB406_0 := n9_; clear n0_ n1_ n2_ n3_ n4_ n5_ n6_ n7_ n8_ n9_; clear hb hbox hg; have hnb67 := NB406_0.out; have hnc67 := NB0_406.out; have hcz68_0 : w66.cell? ⟨gb406, 0, none⟩ = some (.int .i64 0) := (blk_cell BK406.out 0).trans rfl; have hcz68_1 : w66.cell? ⟨gb406, 1, none⟩ = some (.int .u64 0) := (blk_cell BK406.out 1).trans rfl; have hcz68_2 : w66.cell? ⟨gb406, 2, none⟩ = some (.int .u64 0) := (blk_cell BK406.out 2).trans rfl; have hcz68_3 : w66.cell? ⟨gb406, 3, none⟩ = some (.int .u64 0) := (blk_cell BK406.out 3).trans rfl; have hcz68_4 : w66.cell? ⟨gb406, 4, none⟩ = some (.int .u64 0) := (blk_cell BK406.out 4).trans rfl; have hcz68_5 : w66.cell? ⟨gb406, 5, none⟩ = some (.int .i64 0) := (blk_cell BK406.out 5).trans rfl; have hcz68_6 : w66.cell? ⟨gb406, 6, none⟩ = some (.int .i64 0) := (blk_cell BK406.out 6).trans rfl; have hfz68_0 := blk_frozen BK406.out 0; have hfz68_1 := blk_frozen BK406.out 1; have hfz68_2 := blk_frozen BK406.out 2; have hfz68_3 := blk_frozen BK406.out 3; have hfz68_4 := blk_frozen BK406.out 4; have hfz68_5 := blk_frozen BK406.out 5; have hfz68_6 := blk_frozen BK406.out 6))
                   have n0_ : Aside0 (Kd.R (Kd.int .i64) 3 (((((((w66.setCell ⟨gb406, 0, none⟩ (.int .i64 ((rd_T68 s0_0 x66_5).f0))).setCell ⟨gb406, 1, none⟩ (.int .u64 ((rd_T68 s0_0 x66_5).f1.f0))).setCell ⟨gb406, 2, none⟩ (.int .u64 ((rd_T68 s0_0 x66_5).f1.f1))).setCell ⟨gb406, 3, none⟩ (.int .u64 ((rd_T68 s0_0 x66_5).f1.f2))).setCell ⟨gb406, 4, none⟩ (.int .u64 ((rd_T68 s0_0 x66_5).f1.f3))).setCell ⟨gb406, 5, none⟩ (.int .i64 ((rd_T68 s0_0 x66_5).f2))).setCell ⟨gb406, 6, none⟩ (.int .i64 ((rd_T68 s0_0 x66_5).f3))) w.heap.size (fun k_ => some k_ ≠ (.slice (some ad398) x11_8.length co17 : Value).ownBlock) v401 x13_5) := ⟨by (with_reducible repeat (first | apply Kd.R_alloc | apply Kd.R_drewN | apply Kd.R_drew)); exact Kd.R_mono (Kd.R_far (p := ⟨gb406, 6, none⟩) (Kd.R_far (p := ⟨gb406, 5, none⟩) (Kd.R_far (p := ⟨gb406, 4, none⟩) (Kd.R_far (p := ⟨gb406, 3, none⟩) (Kd.R_far (p := ⟨gb406, 2, none⟩) (Kd.R_far (p := ⟨gb406, 1, none⟩) (Kd.R_far (p := ⟨gb406, 0, none⟩) (Kd.R_types HO_13.out BK406.out (by decide)) (fun _ hk => hk.2) (.int .i64 ((rd_T68 s0_0 x66_5).f0))) (fun _ hk => hk.2) (.int .u64 ((rd_T68 s0_0 x66_5).f1.f0))) (fun _ hk => hk.2) (.int .u64 ((rd_T68 s0_0 x66_5).f1.f1))) (fun _ hk => hk.2) (.int .u64 ((rd_T68 s0_0 x66_5).f1.f2))) (fun _ hk => hk.2) (.int .u64 ((rd_T68 s0_0 x66_5).f1.f3))) (fun _ hk => hk.2) (.int .i64 ((rd_T68 s0_0 x66_5).f2))) (fun _ hk => hk.2) (.int .i64 ((rd_T68 s0_0 x66_5).f3))) (fun _ hk => hk.1)⟩
                   have n1_ : Aside0 (Kd.R (Kd.int .i64) 3 (((((((w66.setCell ⟨gb406, 0, none⟩ (.int .i64 ((rd_T68 s0_0 x66_5).f0))).setCell ⟨gb406, 1, none⟩ (.int .u64 ((rd_T68 s0_0 x66_5).f1.f0))).setCell ⟨gb406, 2, none⟩ (.int .u64 ((rd_T68 s0_0 x66_5).f1.f1))).setCell ⟨gb406, 3, none⟩ (.int .u64 ((rd_T68 s0_0 x66_5).f1.f2))).setCell ⟨gb406, 4, none⟩ (.int .u64 ((rd_T68 s0_0 x66_5).f1.f3))).setCell ⟨gb406, 5, none⟩ (.int .i64 ((rd_T68 s0_0 x66_5).f2))).setCell ⟨gb406, 6, none⟩ (.int .i64 ((rd_T68 s0_0 x66_5).f3))) w.heap.size (fun k_ => some k_ ≠ (v401 : Value).ownBlock) (.slice (some ad398) x11_8.length co17) x11_8) := ⟨by (with_reducible repeat (first | apply Kd.R_alloc | apply Kd.R_drewN | apply Kd.R_drew)); exact Kd.R_mono (Kd.R_far (p := ⟨gb406, 6, none⟩) (Kd.R_far (p := ⟨gb406, 5, none⟩) (Kd.R_far (p := ⟨gb406, 4, none⟩) (Kd.R_far (p := ⟨gb406, 3, none⟩) (Kd.R_far (p := ⟨gb406, 2, none⟩) (Kd.R_far (p := ⟨gb406, 1, none⟩) (Kd.R_far (p := ⟨gb406, 0, none⟩) (Kd.R_types HO_64.out BK406.out (by decide)) (fun _ hk => hk.2) (.int .i64 ((rd_T68 s0_0 x66_5).f0))) (fun _ hk => hk.2) (.int .u64 ((rd_T68 s0_0 x66_5).f1.f0))) (fun _ hk => hk.2) (.int .u64 ((rd_T68 s0_0 x66_5).f1.f1))) (fun _ hk => hk.2) (.int .u64 ((rd_T68 s0_0 x66_5).f1.f2))) (fun _ hk => hk.2) (.int .u64 ((rd_T68 s0_0 x66_5).f1.f3))) (fun _ hk => hk.2) (.int .i64 ((rd_T68 s0_0 x66_5).f2))) (fun _ hk => hk.2) (.int .i64 ((rd_T68 s0_0 x66_5).f3))) (fun _ hk => hk.1)⟩
                   have n2_ : Aside0 ((((((((w66.setCell ⟨gb406, 0, none⟩ (.int .i64 ((rd_T68 s0_0 x66_5).f0))).setCell ⟨gb406, 1, none⟩ (.int .u64 ((rd_T68 s0_0 x66_5).f1.f0))).setCell ⟨gb406, 2, none⟩ (.int .u64 ((rd_T68 s0_0 x66_5).f1.f1))).setCell ⟨gb406, 3, none⟩ (.int .u64 ((rd_T68 s0_0 x66_5).f1.f2))).setCell ⟨gb406, 4, none⟩ (.int .u64 ((rd_T68 s0_0 x66_5).f1.f3))).setCell ⟨gb406, 5, none⟩ (.int .i64 ((rd_T68 s0_0 x66_5).f2))).setCell ⟨gb406, 6, none⟩ (.int .i64 ((rd_T68 s0_0 x66_5).f3))).heap[gb406]? = some (.cells #[.int .i64 ((rd_T68 s0_0 x66_5).f0), .int .u64 ((rd_T68 s0_0 x66_5).f1.f0), .int .u64 ((rd_T68 s0_0 x66_5).f1.f1), .int .u64 ((rd_T68 s0_0 x66_5).f1.f2), .int .u64 ((rd_T68 s0_0 x66_5).f1.f3), .int .i64 ((rd_T68 s0_0 x66_5).f2), .int .i64 ((rd_T68 s0_0 x66_5).f3)] 68 (0, 0))) := ⟨by (with_reducible repeat (first | refine blk_drewN ?_ _ | refine blk_drew ?_ | refine blk_alloc ?_ _)); refine blk_put (cs := #[.int .i64 ((rd_T68 s0_0 x66_5).f0), .int .u64 ((rd_T68 s0_0 x66_5).f1.f0), .int .u64 ((rd_T68 s0_0 x66_5).f1.f1), .int .u64 ((rd_T68 s0_0 x66_5).f1.f2), .int .u64 ((rd_T68 s0_0 x66_5).f1.f3), .int .i64 ((rd_T68 s0_0 x66_5).f2), .int .i64 0]) ?_ 6 _ rfl; (with_reducible repeat (first | refine blk_drewN ?_ _ | refine blk_drew ?_ | refine blk_alloc ?_ _)); refine blk_put (cs := #[.int .i64 ((rd_T68 s0_0 x66_5).f0), .int .u64 ((rd_T68 s0_0 x66_5).f1.f0), .int .u64 ((rd_T68 s0_0 x66_5).f1.f1), .int .u64 ((rd_T68 s0_0 x66_5).f1.f2), .int .u64 ((rd_T68 s0_0 x66_5).f1.f3), .int .i64 0, .int .i64 0]) ?_ 5 _ rfl; (with_reducible repeat (first | refine blk_drewN ?_ _ | refine blk_drew ?_ | refine blk_alloc ?_ _)); refine blk_put (cs := #[.int .i64 ((rd_T68 s0_0 x66_5).f0), .int .u64 ((rd_T68 s0_0 x66_5).f1.f0), .int .u64 ((rd_T68 s0_0 x66_5).f1.f1), .int .u64 ((rd_T68 s0_0 x66_5).f1.f2), .int .u64 0, .int .i64 0, .int .i64 0]) ?_ 4 _ rfl; (with_reducible repeat (first | refine blk_drewN ?_ _ | refine blk_drew ?_ | refine blk_alloc ?_ _)); refine blk_put (cs := #[.int .i64 ((rd_T68 s0_0 x66_5).f0), .int .u64 ((rd_T68 s0_0 x66_5).f1.f0), .int .u64 ((rd_T68 s0_0 x66_5).f1.f1), .int .u64 0, .int .u64 0, .int .i64 0, .int .i64 0]) ?_ 3 _ rfl; (with_reducible repeat (first | refine blk_drewN ?_ _ | refine blk_drew ?_ | refine blk_alloc ?_ _)); refine blk_put (cs := #[.int .i64 ((rd_T68 s0_0 x66_5).f0), .int .u64 ((rd_T68 s0_0 x66_5).f1.f0), .int .u64 0, .int .u64 0, .int .u64 0, .int .i64 0, .int .i64 0]) ?_ 2 _ rfl; (with_reducible repeat (first | refine blk_drewN ?_ _ | refine blk_drew ?_ | refine blk_alloc ?_ _)); refine blk_put (cs := #[.int .i64 ((rd_T68 s0_0 x66_5).f0), .int .u64 0, .int .u64 0, .int .u64 0, .int .u64 0, .int .i64 0, .int .i64 0]) ?_ 1 _ rfl; (with_reducible repeat (first | refine blk_drewN ?_ _ | refine blk_drew ?_ | refine blk_alloc ?_ _)); refine blk_put (cs := #[.int .i64 0, .int .u64 0, .int .u64 0, .int .u64 0, .int .u64 0, .int .i64 0, .int .i64 0]) ?_ 0 _ rfl; (with_reducible repeat (first | refine blk_drewN ?_ _ | refine blk_drew ?_ | refine blk_alloc ?_ _)); exact BK406.out⟩
                   have n3_ : Aside0 (IsS66 w0 (((((((w66.setCell ⟨gb406, 0, none⟩ (.int .i64 ((rd_T68 s0_0 x66_5).f0))).setCell ⟨gb406, 1, none⟩ (.int .u64 ((rd_T68 s0_0 x66_5).f1.f0))).setCell ⟨gb406, 2, none⟩ (.int .u64 ((rd_T68 s0_0 x66_5).f1.f1))).setCell ⟨gb406, 3, none⟩ (.int .u64 ((rd_T68 s0_0 x66_5).f1.f2))).setCell ⟨gb406, 4, none⟩ (.int .u64 ((rd_T68 s0_0 x66_5).f1.f3))).setCell ⟨gb406, 5, none⟩ (.int .i64 ((rd_T68 s0_0 x66_5).f2))).setCell ⟨gb406, 6, none⟩ (.int .i64 ((rd_T68 s0_0 x66_5).f3))) g s0_0 x1001_5) := ⟨by repeat (first | (with_reducible first | exact HI0.out | apply IsS66.alloc | apply IsS66.drewN | apply IsS66.drew | apply IsS66.set_1 | apply IsS66.far (hne := NB0_406.out)) | exact HI0.out)⟩
                   have n4_ : Aside0 (KeepBut w (((((((w66.setCell ⟨gb406, 0, none⟩ (.int .i64 ((rd_T68 s0_0 x66_5).f0))).setCell ⟨gb406, 1, none⟩ (.int .u64 ((rd_T68 s0_0 x66_5).f1.f0))).setCell ⟨gb406, 2, none⟩ (.int .u64 ((rd_T68 s0_0 x66_5).f1.f1))).setCell ⟨gb406, 3, none⟩ (.int .u64 ((rd_T68 s0_0 x66_5).f1.f2))).setCell ⟨gb406, 4, none⟩ (.int .u64 ((rd_T68 s0_0 x66_5).f1.f3))).setCell ⟨gb406, 5, none⟩ (.int .i64 ((rd_T68 s0_0 x66_5).f2))).setCell ⟨gb406, 6, none⟩ (.int .i64 ((rd_T68 s0_0 x66_5).f3))) g none) := ⟨by repeat (first | (with_reducible first | exact HK.out | apply KeepBut.set_ | apply keep_drewN | apply keep_drew | apply keep_alloc | refine keep_far ?_ GW406.out _) | exact HK.out)⟩
                   have n5_ : Aside0 (Below w0.heap.size w0 (((((((w66.setCell ⟨gb406, 0, none⟩ (.int .i64 ((rd_T68 s0_0 x66_5).f0))).setCell ⟨gb406, 1, none⟩ (.int .u64 ((rd_T68 s0_0 x66_5).f1.f0))).setCell ⟨gb406, 2, none⟩ (.int .u64 ((rd_T68 s0_0 x66_5).f1.f1))).setCell ⟨gb406, 3, none⟩ (.int .u64 ((rd_T68 s0_0 x66_5).f1.f2))).setCell ⟨gb406, 4, none⟩ (.int .u64 ((rd_T68 s0_0 x66_5).f1.f3))).setCell ⟨gb406, 5, none⟩ (.int .i64 ((rd_T68 s0_0 x66_5).f2))).setCell ⟨gb406, 6, none⟩ (.int .i64 ((rd_T68 s0_0 x66_5).f3)))) := ⟨by repeat (first | (with_reducible first | exact HB.out | apply below_alloc | apply pw_below_drewN | apply below_drew1 | refine below_set ?_ (IsS66.ge HI0.out) | refine below_set ?_ GE406.out) | exact HB.out)⟩
                   (try clear HO_13)
                   (try clear HO_64)
                   (try clear BK406)
                   (try clear HI0)
                   (try clear HK)
                   (try clear HB)
                   generalize (((((((w66.setCell ⟨gb406, 0, none⟩ (.int .i64 ((rd_T68 s0_0 x66_5).f0))).setCell ⟨gb406, 1, none⟩ (.int .u64 ((rd_T68 s0_0 x66_5).f1.f0))).setCell ⟨gb406, 2, none⟩ (.int .u64 ((rd_T68 s0_0 x66_5).f1.f1))).setCell ⟨gb406, 3, none⟩ (.int .u64 ((rd_T68 s0_0 x66_5).f1.f2))).setCell ⟨gb406, 4, none⟩ (.int .u64 ((rd_T68 s0_0 x66_5).f1.f3))).setCell ⟨gb406, 5, none⟩ (.int .i64 ((rd_T68 s0_0 x66_5).f2))).setCell ⟨gb406, 6, none⟩ (.int .i64 ((rd_T68 s0_0 x66_5).f3))) = w69 at n0_ n1_ n2_ n3_ n4_ n5_ ⊢
                   have HO_13 := n0_
                   have HO_64 := n1_
                   have BK406 := n2_
                   have HI0 := n3_
                   have HK := n4_
                   have HB := n5_
                   clear n0_ n1_ n2_ n3_ n4_ n5_
                   have n0_ := Aside0.mk (Kd.R_drew HO_13.out)
                   have n1_ := Aside0.mk (Kd.R_drew HO_64.out)
                   have n2_ := Aside0.mk (blk_drew BK406.out)
                   have n3_ := Aside0.mk (IsS66.drew HI0.out)
                   have n4_ := Aside0.mk (keep_drew HK.out)
                   have n5_ := Aside0.mk (below_drew1 HB.out)
                   clear HO_13
                   clear HO_64
                   clear BK406
                   clear HI0
                   clear HK
                   clear HB
                   have HO_13 := n0_
                   have HO_64 := n1_
                   have BK406 := n2_
                   have HI0 := n3_
                   have HK := n4_
                   have HB := n5_
                   clear n0_ n1_ n2_ n3_ n4_ n5_
                   refine start_ (n := 20) (S := fun w' => True) (ds := []) #[ff,ff,ff,ff,ff,ff,ff,ff,ff,ff,ff,ff,ff,ff,ff,ff,ff,ff,ff,ff] (by kernel_rfl) rfl rfl trivial (fun hHeld => ?_); refine with_tabW match_Prog_Find.tab17 match_Prog_Find.bits17 (fun HT_ HW_ => ?_)
                   generalize w69.drew = w70 at HO_13 HO_64 BK406 HI0 HK HB hHeld ⊢
                   refine pure_ (i := 0) (N := some 78) (v := ?_) (a' := ?_) #[tt,ff,ff,ff,ff,ff,ff,ff,ff,ff,ff,ff,ff,ff,ff,ff,ff,ff,ff,ff] rfl rfl (any_of HT_.out (by kernel_rfl)) (fun _ _ _ h => h) (Or.inl ⟨by rfl, ?_⟩) ?_ ?_
                   rotate_left
                   ·intro w'
                    go_simp
                    with_reducible rfl
                   rotate_left
                   ·simp only [Act.put, setA, setZ, setS, i64_w, i32_w]
                    rfl
                   refine pure_ (i := 1) (N := some 79) (v := ?_) (a' := ?_) #[tt,tt,ff,ff,ff,ff,ff,ff,ff,ff,ff,ff,ff,ff,ff,ff,ff,ff,ff,ff] rfl rfl (any_of HT_.out (by kernel_rfl)) (fun _ _ _ h => h) (Or.inl ⟨by rfl, ?_⟩) ?_ ?_
                   rotate_left
                   ·intro w'
                    go_simp
                    with_reducible rfl
                   rotate_left
                   ·simp only [Act.put, setA, setZ, setS, i64_w, i32_w]
                    rfl
                   refine pure_ (i := 2) (N := some 80) (v := ?_) (a' := ?_) #[tt,tt,tt,ff,ff,ff,ff,ff,ff,ff,ff,ff,ff,ff,ff,ff,ff,ff,ff,ff] rfl rfl (any_of HT_.out (by kernel_rfl)) (fun _ _ _ h => h) (Or.inl ⟨by rfl, ?_⟩) ?_ ?_
                   rotate_left
                   ·intro w'
                    go_simp
                    with_reducible rfl
                   rotate_left
                   ·simp only [Act.put, setA, setZ, setS, i64_w, i32_w]
                    rfl
                   refine pure_ (i := 3) (N := some 81) (v := ?_) (a' := ?_) #[tt,tt,tt,tt,ff,ff,ff,ff,ff,ff,ff,ff,ff,ff,ff,ff,ff,ff,ff,ff] rfl rfl (any_of HT_.out (by kernel_rfl)) (fun _ _ _ h => h) (Or.inl ⟨by rfl, ?_⟩) ?_ ?_
                   rotate_left
                   ·intro w'
                    go_simp
                    with_reducible rfl
                   rotate_left
                   ·simp only [Act.put, setA, setZ, setS, i64_w, i32_w]
                    rfl
                   refine pure_ (i := 4) (N := some 82) (v := undef) (a' := ?_) #[tt,tt,tt,tt,tt,ff,ff,ff,ff,ff,ff,ff,ff,ff,ff,ff,ff,ff,ff,ff] rfl rfl (any_of HT_.out (by kernel_rfl)) (fun _ _ _ h => h) (Or.inr ⟨by rfl, rfl⟩) ?_ ?_
                   rotate_left
                   ·simp only [Act.put, setA, setZ, setS, i64_w, i32_w]
                    rfl
                   refine pure_ (i := 5) (N := some 83) (v := undef) (a' := ?_) #[tt,tt,tt,tt,tt,tt,ff,ff,ff,ff,ff,ff,ff,ff,ff,ff,ff,ff,ff,ff] rfl rfl (any_of HT_.out (by kernel_rfl)) (fun _ _ _ h => h) (Or.inr ⟨by rfl, rfl⟩) ?_ ?_
                   rotate_left
                   ·simp only [Act.put, setA, setZ, setS, i64_w, i32_w]
                    rfl
                   refine pure_ (i := 6) (N := some 84) (v := ?_) (a' := ?_) #[tt,tt,tt,tt,tt,tt,tt,ff,ff,ff,ff,ff,ff,ff,ff,ff,ff,ff,ff,ff] rfl rfl (any_of HT_.out (by kernel_rfl)) (fun _ _ _ h => h) (Or.inl ⟨by rfl, ?_⟩) ?_ ?_
                   rotate_left
                   ·intro w'
                    go_simp
                    with_reducible rfl
                   rotate_left
                   ·simp only [Act.put, setA, setZ, setS, i64_w, i32_w]
                    rfl
                   refine pure_ (i := 7) (N := some 85) (v := ?_) (a' := ?_) #[tt,tt,tt,tt,tt,tt,tt,tt,ff,ff,ff,ff,ff,ff,ff,ff,ff,ff,ff,ff] rfl rfl (any_of HT_.out (by kernel_rfl)) (fun _ _ _ h => h) (Or.inl ⟨by rfl, ?_⟩) ?_ ?_
                   rotate_left
                   ·intro w'
                    go_simp
                    with_reducible rfl
                   rotate_left
                   ·simp only [Act.put, setA, setZ, setS, i64_w, i32_w]
                    rfl
                   refine pure_ (i := 8) (N := some 86) (v := undef) (a' := ?_) #[tt,tt,tt,tt,tt,tt,tt,tt,tt,ff,ff,ff,ff,ff,ff,ff,ff,ff,ff,ff] rfl rfl (any_of HT_.out (by kernel_rfl)) (fun _ _ _ h => h) (Or.inr ⟨by rfl, rfl⟩) ?_ ?_
                   rotate_left
                   ·simp only [Act.put, setA, setZ, setS, i64_w, i32_w]
                    rfl
                   refine pure_ (i := 9) (N := some 87) (v := undef) (a' := ?_) #[tt,tt,tt,tt,tt,tt,tt,tt,tt,tt,ff,ff,ff,ff,ff,ff,ff,ff,ff,ff] rfl rfl (any_of HT_.out (by kernel_rfl)) (fun _ _ _ h => h) (Or.inr ⟨by rfl, rfl⟩) ?_ ?_
                   rotate_left
                   ·simp only [Act.put, setA, setZ, setS, i64_w, i32_w]
                    rfl
                   refine pure_ (i := 10) (N := some 88) (v := undef) (a' := ?_) #[tt,tt,tt,tt,tt,tt,tt,tt,tt,tt,tt,ff,ff,ff,ff,ff,ff,ff,ff,ff] rfl rfl (any_of HT_.out (by kernel_rfl)) (fun _ _ _ h => h) (Or.inr ⟨by rfl, rfl⟩) ?_ ?_
                   rotate_left
                   ·simp only [Act.put, setA, setZ, setS, i64_w, i32_w]
                    rfl
                   refine pure_ (i := 11) (N := some 89) (v := ?_) (a' := ?_) #[tt,tt,tt,tt,tt,tt,tt,tt,tt,tt,tt,tt,ff,ff,ff,ff,ff,ff,ff,ff] rfl rfl (any_of HT_.out (by kernel_rfl)) (fun _ _ _ h => h) (Or.inl ⟨by rfl, ?_⟩) ?_ ?_
                   rotate_left
                   ·intro w'
                    go_simp
                    with_reducible rfl
                   rotate_left
                   ·simp only [Act.put, setA, setZ, setS, i64_w, i32_w]
                    rfl
                   refine pure_ (i := 12) (N := some 90) (v := ?_) (a' := ?_) #[tt,tt,tt,tt,tt,tt,tt,tt,tt,tt,tt,tt,tt,ff,ff,ff,ff,ff,ff,ff] rfl rfl (any_of HT_.out (by kernel_rfl)) (fun _ _ _ h => h) (Or.inl ⟨by rfl, ?_⟩) ?_ ?_
                   rotate_left
                   ·intro w'
                    go_simp
                    with_reducible rfl
                   rotate_left
                   ·simp only [Act.put, setA, setZ, setS, i64_w, i32_w]
                    rfl
                   refine pure_ (i := 13) (N := some 91) (v := undef) (a' := ?_) #[tt,tt,tt,tt,tt,tt,tt,tt,tt,tt,tt,tt,tt,tt,ff,ff,ff,ff,ff,ff] rfl rfl (any_of HT_.out (by kernel_rfl)) (fun _ _ _ h => h) (Or.inr ⟨by rfl, rfl⟩) ?_ ?_
                   rotate_left
                   ·simp only [Act.put, setA, setZ, setS, i64_w, i32_w]
                    rfl
                   refine pure_ (i := 14) (N := some 92) (v := undef) (a' := ?_) #[tt,tt,tt,tt,tt,tt,tt,tt,tt,tt,tt,tt,tt,tt,tt,ff,ff,ff,ff,ff] rfl rfl (any_of HT_.out (by kernel_rfl)) (fun _ _ _ h => h) (Or.inr ⟨by rfl, rfl⟩) ?_ ?_
                   rotate_left
                   ·simp only [Act.put, setA, setZ, setS, i64_w, i32_w]
                    rfl
                   refine pure_ (i := 15) (N := some 93) (v := undef) (a' := ?_) #[tt,tt,tt,tt,tt,tt,tt,tt,tt,tt,tt,tt,tt,tt,tt,tt,ff,ff,ff,ff] rfl rfl (any_of HT_.out (by kernel_rfl)) (fun _ _ _ h => h) (Or.inr ⟨by rfl, rfl⟩) ?_ ?_
                   rotate_left
                   ·simp only [Act.put, setA, setZ, setS, i64_w, i32_w]
                    rfl
                   refine pure_ (i := 16) (N := some 94) (v := undef) (a' := ?_) #[tt,tt,tt,tt,tt,tt,tt,tt,tt,tt,tt,tt,tt,tt,tt,tt,tt,ff,ff,ff] rfl rfl (any_of HT_.out (by kernel_rfl)) (fun _ _ _ h => h) (Or.inr ⟨by rfl, rfl⟩) ?_ ?_
                   rotate_left
                   ·simp only [Act.put, setA, setZ, setS, i64_w, i32_w]
                    rfl
                   refine pure_ (i := 17) (N := some 95) (v := undef) (a' := ?_) #[tt,tt,tt,tt,tt,tt,tt,tt,tt,tt,tt,tt,tt,tt,tt,tt,tt,tt,ff,ff] rfl rfl (any_of HT_.out (by kernel_rfl)) (fun _ _ _ h => h) (Or.inr ⟨by rfl, rfl⟩) ?_ ?_
                   rotate_left
                   ·simp only [Act.put, setA, setZ, setS, i64_w, i32_w]
                    rfl
                   refine pure_ (i := 18) (N := some 96) (v := undef) (a' := ?_) #[tt,tt,tt,tt,tt,tt,tt,tt,tt,tt,tt,tt,tt,tt,tt,tt,tt,tt,tt,ff] rfl rfl (any_of HT_.out (by kernel_rfl)) (fun _ _ _ h => h) (Or.inr ⟨by rfl, rfl⟩) ?_ ?_
                   rotate_left
                   ·simp only [Act.put, setA, setZ, setS, i64_w, i32_w]
                    rfl
                   refine pure_ (i := 19) (N := some 97) (v := ?_) (a' := ?_) #[tt,tt,tt,tt,tt,tt,tt,tt,tt,tt,tt,tt,tt,tt,tt,tt,tt,tt,tt,tt] rfl rfl (any_of HT_.out (by kernel_rfl)) (fun _ _ _ h => h) (Or.inl ⟨by rfl, ?_⟩) ?_ ?_
                   rotate_left
                   ·intro w'
                    go_simp
                    with_reducible rfl
                   rotate_left
                   ·simp only [Act.put, setA, setZ, setS, i64_w, i32_w]
                    rfl
                   refine done_ (done_of HT_.out (by kernel_rfl)) ?_
                   try go_wp2
                   go_roundg k5
                   case measure => have := HJ3.out; have := HK2.out; have := HJ8.out; have := HJ15.out; have := HK5.out; omega
                   case rel => exact ⟨(x13_5), (x14_5), (wrap64 (x66_5 + 1)), (x1001_5), qg1, qg1, H', ⟨by have := HJ3.out; have := HK2.out; have := HJ8.out; have := HJ15.out; have := HK5.out; omega⟩, ⟨by (with_reducible repeat (first | apply Kd.R_alloc | apply Kd.R_drewN | apply Kd.R_drew)); exact HO_13.out⟩, ⟨by (with_reducible repeat (first | apply Kd.R_alloc | apply Kd.R_drewN | apply Kd.R_drew)); exact HO_64.out⟩, ⟨by repeat (first | (with_reducible first | exact HI0.out | apply IsS66.alloc | apply IsS66.drewN | apply IsS66.drew | apply IsS66.set_1 | apply IsS66.far (hne := NB0_406.out)) | exact HI0.out)⟩, ⟨by repeat (first | (with_reducible first | exact HK.out | apply KeepBut.set_ | apply keep_drewN | apply keep_drew | apply keep_alloc | refine keep_far ?_ GW406.out _) | exact HK.out)⟩, ⟨by repeat (first | (with_reducible first | exact HB.out | apply below_alloc | apply pw_below_drewN | apply below_drew1 | refine below_set ?_ (IsS66.ge HI0.out) | refine below_set ?_ GE406.out) | exact HB.out)⟩⟩
                 ·rw [if_neg c26] at H
                  exact absurd H (by simp)
                ·rw [if_neg c25] at H
                 exact absurd H (by simp)
               ·rw [if_neg c24] at H
                exact absurd H (by simp)
              ·rw [if_neg c23] at H
               have c23b0 : decide (x66_5 < (x11_8.length : Int)) = false := decide_eq_false c23
               clear c23
               by_cases c71 : x14_5 = true
               ·subst c71
                have H1 : (match_Prog_Find.l0 k5 a1 x9_15 x10_15 x13_5 (wrap64 (x12_2 + 1)) s0_0 x1001_5) = some (r1, r2, r3, r4) := by rw [if_pos rfl] at H; exact H
                clear H
                have H := H1
                clear H1
                have H' := Aside0.mk H
                clear H
                go_wp2
                go_roundg k5
                case measure => have := HJ3.out; have := HK2.out; have := HJ8.out; have := HJ15.out; have := HK5.out; omega
                case rel => exact ⟨(x9_15), (x10_15), (x13_5), (wrap64 (x12_2 + 1)), (x1001_5), qg1, qg1, qg1, H', ⟨by have := HJ3.out; have := HK2.out; have := HJ8.out; have := HJ15.out; have := HK5.out; omega⟩, ⟨by (with_reducible repeat (first | apply Kd.R_alloc | apply Kd.R_drewN | apply Kd.R_drew)); exact Kd.R_mono HO_13.out (fun _ hk => trivial)⟩, ⟨by repeat (first | (with_reducible first | exact HI0.out | apply IsS66.alloc | apply IsS66.drewN | apply IsS66.drew | apply IsS66.set_1) | exact HI0.out)⟩, ⟨by repeat (first | (with_reducible first | exact HK.out | apply KeepBut.set_ | apply keep_drewN | apply keep_drew | apply keep_alloc) | exact HK.out)⟩, ⟨by repeat (first | (with_reducible first | exact HB.out | apply below_alloc | apply pw_below_drewN | apply below_drew1 | refine below_set ?_ (IsS66.ge HI0.out)) | exact HB.out)⟩⟩
               ·replace c71 := Bool.eq_false_iff.mpr c71
                subst c71
                have H1 : (if x9_15 = 1099511627776 then (some (0, 0, false, x1001_5)) else (some (x9_15, x10_15, true, x1001_5))) = some (r1, r2, r3, r4) := by rw [if_neg (show ¬ (false = true) by decide)] at H; exact H
                clear H
                have H := H1
                clear H1
                by_cases c72 : x9_15 = 1099511627776
                ·rw [if_pos c72] at H
                 have c72b0 : (x9_15 == 1099511627776) = true := beq_iff_eq.mpr c72
                 have c72b1 : (x9_15 != 1099511627776) = false := bne_eq_false_iff_eq.mpr c72
                 clear c72
                 simp only [Option.some.injEq, Prod.mk.injEq] at H
                 obtain ⟨rfl, rfl, rfl, rfl⟩ := H
                 go_wp2
                 rw [Exit.noGoto_ret]
                 go_ret3
                 exact ⟨by first | rfl | (simp [errW_none, errW_some] <;> rfl) | (simp [errW_none, errW_some] <;> first | rfl | exact isEmpty_bne _) | (simp [*, errW_none, errW_some] <;> rfl), by repeat (first | (with_reducible first | exact HI0.out | apply IsS66.alloc | apply IsS66.drewN | apply IsS66.drew | apply IsS66.set_1) | exact HI0.out), by repeat (first | (with_reducible first | exact HB.out | apply below_alloc | apply pw_below_drewN | apply below_drew1 | refine below_set ?_ (IsS66.ge HI0.out)) | exact HB.out), by repeat (first | (with_reducible first | exact HK.out | apply KeepBut.set_ | apply keep_drewN | apply keep_drew | apply keep_alloc) | exact HK.out)⟩
                ·rw [if_neg c72] at H
                 have c72b0 : (x9_15 == 1099511627776) = false := beq_eq_false_iff_ne.mpr c72
                 have c72b1 : (x9_15 != 1099511627776) = true := bne_iff_ne.mpr c72
                 simp only [Option.some.injEq, Prod.mk.injEq] at H
                 obtain ⟨rfl, rfl, rfl, rfl⟩ := H
                 go_wp2
                 rw [Exit.noGoto_ret]
                 go_ret3
                 exact ⟨by first | rfl | (simp [errW_none, errW_some] <;> rfl) | (simp [errW_none, errW_some] <;> first | rfl | exact isEmpty_bne _) | (simp [*, errW_none, errW_some] <;> rfl), by repeat (first | (with_reducible first | exact HI0.out | apply IsS66.alloc | apply IsS66.drewN | apply IsS66.drew | apply IsS66.set_1) | exact HI0.out), by repeat (first | (with_reducible first | exact HB.out | apply below_alloc | apply pw_below_drewN | apply below_drew1 | refine below_set ?_ (IsS66.ge HI0.out)) | exact HB.out), by repeat (first | (with_reducible first | exact HK.out | apply KeepBut.set_ | apply keep_drewN | apply keep_drew | apply keep_alloc) | exact HK.out)⟩
        ·rw [if_neg c15] at H
         exact absurd H (by simp)

end Go.Proofs.Ythlffghlkggimaa.Pr
