/- The machine's side, written by a patched print (wip/tools): each theorem says that a call of the Go function comes to what the Lean function beside it computes, where the tables are laid (TB). -/
import Derived.Test.YthlffghlkggimaaPuRxS
import Derived.Test.YthlffghlkggimaaPr0
import Derived.Test.YthlffghlkggimaaPr1
import Derived.Test.YthlffghlkggimaaPr2
namespace Go.Proofs.Ythlffghlkggimaa.Pr
open Go.RowKit Go.Proofs.YthlffghlkggimaaW.PrintWords Go.Proofs.YthlffghlkggimaaW.PrintLast Go.Proofs.YthlffghlkggimaaW.PrintMore
attribute [local go_sem] fld30_0 fld30_1 fld30_2 fld58_0 fld58_1 fld58_2 fld58_3 fld58_4 fld66_0 fld66_1 fld76_0 fld76_1 fld76_2 fld76_3 fld76_4 fld84_0 fld84_1 fld84_2 fld84_3 fld93_0 fld93_1 fld93_2 fld9000_0 fld9000_1 fld9000_2 fld9000_3 fld9000_4 binOp_string_gtr2 binOp_string_leq2 binOp_string_geq2 max2_int min2_int max_two min_two max_three min_three max_four min_four   -- for this text's walks alone
set_option linter.unusedVariables false
set_option linter.unusedSimpArgs false
theorem qb0 {P : Prop} (h : P := by repeat (first | (with_reducible first | exact HK.out | apply KeepBut.set_ | apply keep_drewN | apply keep_drew | apply keep_alloc | refine keep_far ?_ GW138.out _ | refine keep_far ?_ GW139.out _) | exact HK.out)) : P := h
theorem qb1 {P : Prop} (h : P := by (with_reducible repeat (first | refine blk_drewN ?_ _ | refine blk_drew ?_ | refine blk_alloc ?_ _)); exact BK138.out) : P := h
theorem qb2 {P : Prop} (h : P := by repeat (first | (with_reducible first | exact HB.out | apply below_alloc | apply pw_below_drewN | apply below_drew1 | refine below_set ?_ (IsS76.ge HI0.out) | refine below_set ?_ GE138.out | refine below_set ?_ GE139.out) | exact HB.out)) : P := h
theorem qb3 {P : Prop} (h : P := by (with_reducible repeat (first | refine blk_drewN ?_ _ | refine blk_drew ?_ | refine blk_alloc ?_ _)); exact BK139.out) : P := h
theorem qb4 {P : Prop} (h : P := by repeat (first | (with_reducible first | exact HI0.out | apply IsS76.alloc | apply IsS76.drewN | apply IsS76.drew | apply IsS76.set_0 | apply IsS76.set_1 | apply IsS76.set_2 | apply IsS76.set_3 | apply IsS76.set_4 | apply IsS76.far (hne := NB0_138.out) | apply IsS76.far (hne := NB0_139.out)) | exact HI0.out)) : P := h
theorem qb5 {P : Prop} (h : P := by (with_reducible repeat (first | refine blk_drewN ?_ _ | refine blk_drew ?_ | refine blk_alloc ?_ _)); refine blk_far ?_ NB138_0.out _; (with_reducible repeat (first | refine blk_drewN ?_ _ | refine blk_drew ?_ | refine blk_alloc ?_ _)); exact BK138.out) : P := h
theorem qb6 {P : Prop} (h : P := by (with_reducible repeat (first | refine blk_drewN ?_ _ | refine blk_drew ?_ | refine blk_alloc ?_ _)); refine blk_far ?_ NB139_0.out _; (with_reducible repeat (first | refine blk_drewN ?_ _ | refine blk_drew ?_ | refine blk_alloc ?_ _)); exact BK139.out) : P := h
theorem qb7 {P : Prop} (h : P := by repeat (first | (with_reducible first | exact HK.out | apply KeepBut.set_ | apply keep_drewN | apply keep_drew | apply keep_alloc | refine keep_far ?_ GW138.out _) | exact HK.out)) : P := h
theorem qb8 {P : Prop} (h : P := by first | rfl | (simp; done) | (simp [*]; done) | (simp; unfold wrap64; omega)) : P := h
theorem qb9 {P : Prop} (h : P := by repeat (first | (with_reducible first | exact HK.out | apply KeepBut.set_ | apply keep_drewN | apply keep_drew | apply keep_alloc) | exact HK.out)) : P := h
theorem qb10 {P : Prop} (h : P := by (with_reducible repeat (first | refine blk_drewN ?_ _ | refine blk_drew ?_ | refine blk_alloc ?_ _)); refine blk_put (cs := #[.int .u64 x140000_2, .int .u64 x140001_2, .int .u64 x140002_2, .int .u64 0]) ?_ 3 _ rfl; (with_reducible repeat (first | refine blk_drewN ?_ _ | refine blk_drew ?_ | refine blk_alloc ?_ _)); refine blk_put (cs := #[.int .u64 x140000_2, .int .u64 x140001_2, .int .u64 0, .int .u64 0]) ?_ 2 _ rfl; (with_reducible repeat (first | refine blk_drewN ?_ _ | refine blk_drew ?_ | refine blk_alloc ?_ _)); refine blk_put (cs := #[.int .u64 x140000_2, .int .u64 0, .int .u64 0, .int .u64 0]) ?_ 1 _ rfl; (with_reducible repeat (first | refine blk_drewN ?_ _ | refine blk_drew ?_ | refine blk_alloc ?_ _)); refine blk_put (cs := #[.int .u64 0, .int .u64 0, .int .u64 0, .int .u64 0]) ?_ 0 _ rfl; (with_reducible repeat (first | refine blk_drewN ?_ _ | refine blk_drew ?_ | refine blk_alloc ?_ _)); exact BK138.out) : P := h
theorem qb11 {P : Prop} (h : P := by first | (with_reducible assumption) | assumption) : P := h
theorem qb12 {P : Prop} (h : P := by repeat (first | (with_reducible first | exact HI0.out | apply IsS76.alloc | apply IsS76.drewN | apply IsS76.drew | apply IsS76.set_0 | apply IsS76.set_1 | apply IsS76.set_2 | apply IsS76.set_3 | apply IsS76.set_4 | apply IsS76.far (hne := NB0_138.out)) | exact HI0.out)) : P := h
theorem qb13 {P : Prop} (h : P := by repeat (first | (with_reducible first | exact HI0.out | apply IsS76.alloc | apply IsS76.drewN | apply IsS76.drew | apply IsS76.set_0 | apply IsS76.set_1 | apply IsS76.set_2 | apply IsS76.set_3 | apply IsS76.set_4) | exact HI0.out)) : P := h
theorem qb14 {P : Prop} (h : P := by repeat (first | (with_reducible first | exact HB.out | apply below_alloc | apply pw_below_drewN | apply below_drew1 | refine below_set ?_ (IsS76.ge HI0.out) | refine below_set ?_ GE138.out) | exact HB.out)) : P := h
theorem qb15 {P : Prop} (h : P := by repeat (first | (with_reducible first | exact HB.out | apply below_alloc | apply pw_below_drewN | apply below_drew1 | refine below_set ?_ (IsS76.ge HI0.out)) | exact HB.out)) : P := h

/-! ### regex_reader_set: function 48 -/
mutual
def regex_reader_set.j0 : Nat → Int → Bool → ByteArray → Int → Int → Int → Int → Int → Int → Int → Int → Option (Int × Int × Int × Int × ByteArray × Int × Int × Int × Int)
 | 0, _, _, _, _, _, _, _, _, _, _, _ => none
 | k + 1, x3, x7, x1000, x1001, x1002, x1003, x1004, x140000, x140001, x140002, x140003 => regex_reader_set.l0 k x3 x7 true x1000 x1001 x1002 x1003 x1004 x140000 x140001 x140002 x140003
def regex_reader_set.l0 : Nat → Int → Bool → Bool → ByteArray → Int → Int → Int → Int → Int → Int → Int → Int → Option (Int × Int × Int × Int × ByteArray × Int × Int × Int × Int)
 | 0, _, _, _, _, _, _, _, _, _, _, _, _ => none
 | k + 1, x3, x7, x8, x1000, x1001, x1002, x1003, x1004, x140000, x140001, x140002, x140003 => (regex_reader_next.f x1000 x1001 x1002 x1003 x1004).bind fun bt147 => (if bt147.2.1 = true then (if bt147.1 = 93 then (regex_reader_set.j2 k x3 x7 bt147.1 (!x8) bt147.2.2.1 (wrap64 (bt147.2.2.2.1 + 1)) bt147.2.2.2.2.1 bt147.2.2.2.2.2.1 bt147.2.2.2.2.2.2 x140000 x140001 x140002 x140003) else (regex_reader_set.j2 k x3 x7 bt147.1 false bt147.2.2.1 (wrap64 (bt147.2.2.2.1 + 1)) bt147.2.2.2.2.1 bt147.2.2.2.2.2.1 bt147.2.2.2.2.2.2 x140000 x140001 x140002 x140003)) else ((regex_reader_fail.f bt147.2.2.1 bt147.2.2.2.1 bt147.2.2.2.2.1 bt147.2.2.2.2.2.1 bt147.2.2.2.2.2.2 x3 9).bind fun bt154 => (if x7 = true then ((regex_Set_Not.f x140000 x140001 x140002 x140003).bind fun bt159 => (some (bt159.1, bt159.2.1, bt159.2.2.1, bt159.2.2.2, bt154.1, bt154.2.1, bt154.2.2.1, bt154.2.2.2.1, bt154.2.2.2.2))) else (some (x140000, x140001, x140002, x140003, bt154.1, bt154.2.1, bt154.2.2.1, bt154.2.2.2.1, bt154.2.2.2.2)))))
def regex_reader_set.j2 : Nat → Int → Bool → Int → Bool → ByteArray → Int → Int → Int → Int → Int → Int → Int → Int → Option (Int × Int × Int × Int × ByteArray × Int × Int × Int × Int)
 | 0, _, _, _, _, _, _, _, _, _, _, _, _, _ => none
 | k + 1, x3, x7, x9, x55, x1000, x1001, x1002, x1003, x1004, x140000, x140001, x140002, x140003 => if x55 = true then (if x7 = true then ((regex_Set_Not.f x140000 x140001 x140002 x140003).bind fun bt163 => (some (bt163.1, bt163.2.1, bt163.2.2.1, bt163.2.2.2, x1000, x1001, x1002, x1003, x1004))) else (some (x140000, x140001, x140002, x140003, x1000, x1001, x1002, x1003, x1004))) else (if x9 = 92 then ((regex_reader_escape.f k x1000 x1001 x1002 x1003 x1004).bind fun bt167 => (regex_reader_set.j3 k x3 x7 bt167.1 bt167.2.1 bt167.2.2.1 bt167.2.2.2.1 bt167.2.2.2.2.1 bt167.2.2.2.2.2 x140000 x140001 x140002 x140003)) else (regex_reader_set.j3 k x3 x7 x9 x1000 x1001 x1002 x1003 x1004 x140000 x140001 x140002 x140003))
def regex_reader_set.j3 : Nat → Int → Bool → Int → ByteArray → Int → Int → Int → Int → Int → Int → Int → Int → Option (Int × Int × Int × Int × ByteArray × Int × Int × Int × Int)
 | 0, _, _, _, _, _, _, _, _, _, _, _, _ => none
 | k + 1, x3, x7, x9, x1000, x1001, x1002, x1003, x1004, x140000, x140001, x140002, x140003 => if (wrap64 (x1001 + 1)) < (x1000.size : Int) then (if 0 ≤ x1001 then (if x1001 < (x1000.size : Int) then (if (bt x1000 x1001) = 45 then (if 0 ≤ (wrap64 (x1001 + 1)) then (if (bt x1000 (wrap64 (x1001 + 1))) = 93 then (regex_reader_set.j4 k x3 x7 x9 x9 false x1000 x1001 x1002 x1003 x1004 x140000 x140001 x140002 x140003) else (regex_reader_set.j4 k x3 x7 x9 x9 (x1003 == 0) x1000 x1001 x1002 x1003 x1004 x140000 x140001 x140002 x140003)) else (none)) else (regex_reader_set.j4 k x3 x7 x9 x9 false x1000 x1001 x1002 x1003 x1004 x140000 x140001 x140002 x140003)) else (none)) else (none)) else (regex_reader_set.j4 k x3 x7 x9 x9 false x1000 x1001 x1002 x1003 x1004 x140000 x140001 x140002 x140003)
def regex_reader_set.j4 : Nat → Int → Bool → Int → Int → Bool → ByteArray → Int → Int → Int → Int → Int → Int → Int → Int → Option (Int × Int × Int × Int × ByteArray × Int × Int × Int × Int)
 | 0, _, _, _, _, _, _, _, _, _, _, _, _, _, _ => none
 | k + 1, x3, x7, x9, x11, x103, x1000, x1001, x1002, x1003, x1004, x140000, x140001, x140002, x140003 => if x103 = true then (if 0 ≤ (wrap64 ((wrap64 (x1001 + 2)) - 1)) then (if (wrap64 ((wrap64 (x1001 + 2)) - 1)) < (x1000.size : Int) then (if (bt x1000 (wrap64 ((wrap64 (x1001 + 2)) - 1))) = 92 then ((regex_reader_escape.f k x1000 (wrap64 (x1001 + 2)) x1002 x1003 x1004).bind fun bt173 => (if bt173.1 < x9 then ((regex_reader_fail.f bt173.2.1 bt173.2.2.1 bt173.2.2.2.1 bt173.2.2.2.2.1 bt173.2.2.2.2.2 x3 9).bind fun bt179 => (regex_reader_set.j5 k x3 x7 x9 bt173.1 bt179.1 bt179.2.1 bt179.2.2.1 bt179.2.2.2.1 bt179.2.2.2.2 x140000 x140001 x140002 x140003)) else (regex_reader_set.j5 k x3 x7 x9 bt173.1 bt173.2.1 bt173.2.2.1 bt173.2.2.2.1 bt173.2.2.2.2.1 bt173.2.2.2.2.2 x140000 x140001 x140002 x140003))) else (if (bt x1000 (wrap64 ((wrap64 (x1001 + 2)) - 1))) < x9 then ((regex_reader_fail.f x1000 (wrap64 (x1001 + 2)) x1002 x1003 x1004 x3 9).bind fun bt184 => (regex_reader_set.j5 k x3 x7 x9 (bt x1000 (wrap64 ((wrap64 (x1001 + 2)) - 1))) bt184.1 bt184.2.1 bt184.2.2.1 bt184.2.2.2.1 bt184.2.2.2.2 x140000 x140001 x140002 x140003)) else (regex_reader_set.j5 k x3 x7 x9 (bt x1000 (wrap64 ((wrap64 (x1001 + 2)) - 1))) x1000 (wrap64 (x1001 + 2)) x1002 x1003 x1004 x140000 x140001 x140002 x140003))) else (none)) else (none)) else (regex_reader_set.j5 k x3 x7 x9 x11 x1000 x1001 x1002 x1003 x1004 x140000 x140001 x140002 x140003)
def regex_reader_set.j5 : Nat → Int → Bool → Int → Int → ByteArray → Int → Int → Int → Int → Int → Int → Int → Int → Option (Int × Int × Int × Int × ByteArray × Int × Int × Int × Int)
 | 0, _, _, _, _, _, _, _, _, _, _, _, _, _ => none
 | k + 1, x3, x7, x9, x11, x1000, x1001, x1002, x1003, x1004, x140000, x140001, x140002, x140003 => regex_reader_set.l1 k x3 x7 x11 (wrap64 (x9)) x1000 x1001 x1002 x1003 x1004 x140000 x140001 x140002 x140003
def regex_reader_set.l1 : Nat → Int → Bool → Int → Int → ByteArray → Int → Int → Int → Int → Int → Int → Int → Int → Option (Int × Int × Int × Int × ByteArray × Int × Int × Int × Int)
 | 0, _, _, _, _, _, _, _, _, _, _, _, _, _ => none
 | k + 1, x3, x7, x11, x12, x1000, x1001, x1002, x1003, x1004, x140000, x140001, x140002, x140003 => if x12 ≤ (wrap64 (x11)) then ((regex_Set_With.f x140000 x140001 x140002 x140003 ((x12) % 256)).bind fun bt189 => (regex_reader_set.l1 k x3 x7 x11 (wrap64 (x12 + 1)) x1000 x1001 x1002 x1003 x1004 bt189.1 bt189.2.1 bt189.2.2.1 bt189.2.2.2)) else (regex_reader_set.l0 k x3 x7 false x1000 x1001 x1002 x1003 x1004 x140000 x140001 x140002 x140003)
end
def regex_reader_set.f (k : Nat) (s0_0 : ByteArray) (s0_1 : Int) (s0_2 : Int) (s0_3 : Int) (s0_4 : Int) : Option (Int × Int × Int × Int × ByteArray × Int × Int × Int × Int) := (regex_reader_next.f s0_0 s0_1 s0_2 s0_3 s0_4).bind fun bt140 => (if bt140.1 = 94 then (regex_reader_set.j0 k (wrap64 (s0_1 - 1)) true bt140.2.2.1 (wrap64 (bt140.2.2.2.1 + 1)) bt140.2.2.2.2.1 bt140.2.2.2.2.2.1 bt140.2.2.2.2.2.2 0 0 0 0) else (regex_reader_set.j0 k (wrap64 (s0_1 - 1)) false bt140.2.2.1 bt140.2.2.2.1 bt140.2.2.2.2.1 bt140.2.2.2.2.2.1 bt140.2.2.2.2.2.2 0 0 0 0))
theorem regex_reader_set.mono_l : ∀ k, (∀ y0 y1 y2 y3 y4 y5 y6 y7 y8 y9 y10, LeO (regex_reader_set.j0 k y0 y1 y2 y3 y4 y5 y6 y7 y8 y9 y10) (regex_reader_set.j0 (k + 1) y0 y1 y2 y3 y4 y5 y6 y7 y8 y9 y10)) ∧ (∀ y0 y1 y2 y3 y4 y5 y6 y7 y8 y9 y10 y11, LeO (regex_reader_set.l0 k y0 y1 y2 y3 y4 y5 y6 y7 y8 y9 y10 y11) (regex_reader_set.l0 (k + 1) y0 y1 y2 y3 y4 y5 y6 y7 y8 y9 y10 y11)) ∧ (∀ y0 y1 y2 y3 y4 y5 y6 y7 y8 y9 y10 y11 y12, LeO (regex_reader_set.j2 k y0 y1 y2 y3 y4 y5 y6 y7 y8 y9 y10 y11 y12) (regex_reader_set.j2 (k + 1) y0 y1 y2 y3 y4 y5 y6 y7 y8 y9 y10 y11 y12)) ∧ (∀ y0 y1 y2 y3 y4 y5 y6 y7 y8 y9 y10 y11, LeO (regex_reader_set.j3 k y0 y1 y2 y3 y4 y5 y6 y7 y8 y9 y10 y11) (regex_reader_set.j3 (k + 1) y0 y1 y2 y3 y4 y5 y6 y7 y8 y9 y10 y11)) ∧ (∀ y0 y1 y2 y3 y4 y5 y6 y7 y8 y9 y10 y11 y12 y13, LeO (regex_reader_set.j4 k y0 y1 y2 y3 y4 y5 y6 y7 y8 y9 y10 y11 y12 y13) (regex_reader_set.j4 (k + 1) y0 y1 y2 y3 y4 y5 y6 y7 y8 y9 y10 y11 y12 y13)) ∧ (∀ y0 y1 y2 y3 y4 y5 y6 y7 y8 y9 y10 y11 y12, LeO (regex_reader_set.j5 k y0 y1 y2 y3 y4 y5 y6 y7 y8 y9 y10 y11 y12) (regex_reader_set.j5 (k + 1) y0 y1 y2 y3 y4 y5 y6 y7 y8 y9 y10 y11 y12)) ∧ (∀ y0 y1 y2 y3 y4 y5 y6 y7 y8 y9 y10 y11 y12, LeO (regex_reader_set.l1 k y0 y1 y2 y3 y4 y5 y6 y7 y8 y9 y10 y11 y12) (regex_reader_set.l1 (k + 1) y0 y1 y2 y3 y4 y5 y6 y7 y8 y9 y10 y11 y12))
 | 0 => ⟨fun _ _ _ _ _ _ _ _ _ _ _ r h => by simp [regex_reader_set.j0] at h, fun _ _ _ _ _ _ _ _ _ _ _ _ r h => by simp [regex_reader_set.l0] at h, fun _ _ _ _ _ _ _ _ _ _ _ _ _ r h => by simp [regex_reader_set.j2] at h, fun _ _ _ _ _ _ _ _ _ _ _ _ r h => by simp [regex_reader_set.j3] at h, fun _ _ _ _ _ _ _ _ _ _ _ _ _ _ r h => by simp [regex_reader_set.j4] at h, fun _ _ _ _ _ _ _ _ _ _ _ _ _ r h => by simp [regex_reader_set.j5] at h, fun _ _ _ _ _ _ _ _ _ _ _ _ _ r h => by simp [regex_reader_set.l1] at h⟩
 | k + 1 => by
  obtain ⟨ih0, ih1, ih2, ih3, ih4, ih5, ih6⟩ := regex_reader_set.mono_l k
  refine ⟨?_, ?_, ?_, ?_, ?_, ?_, ?_⟩
  ·intro y0 y1 y2 y3 y4 y5 y6 y7 y8 y9 y10
   unfold regex_reader_set.j0
   repeat' first
   | (with_reducible exact ih0 _ _ _ _ _ _ _ _ _ _ _)
   | (with_reducible exact ih1 _ _ _ _ _ _ _ _ _ _ _ _)
   | (with_reducible exact ih2 _ _ _ _ _ _ _ _ _ _ _ _ _)
   | (with_reducible exact ih3 _ _ _ _ _ _ _ _ _ _ _ _)
   | (with_reducible exact ih4 _ _ _ _ _ _ _ _ _ _ _ _ _ _)
   | (with_reducible exact ih5 _ _ _ _ _ _ _ _ _ _ _ _ _)
   | (with_reducible exact ih6 _ _ _ _ _ _ _ _ _ _ _ _ _)
   | (with_reducible exact regex_reader_escape.mono _ _ _ _ _ _)
   | (with_reducible exact LeO.refl _)
   | (with_reducible exact LeO.none _)
   | (with_reducible refine LeO.ite ?_ ?_)
   | (with_reducible refine LeO.bind ?_ (fun _ => ?_))
   | exact ih0 _ _ _ _ _ _ _ _ _ _ _
   | exact ih1 _ _ _ _ _ _ _ _ _ _ _ _
   | exact ih2 _ _ _ _ _ _ _ _ _ _ _ _ _
   | exact ih3 _ _ _ _ _ _ _ _ _ _ _ _
   | exact ih4 _ _ _ _ _ _ _ _ _ _ _ _ _ _
   | exact ih5 _ _ _ _ _ _ _ _ _ _ _ _ _
   | exact ih6 _ _ _ _ _ _ _ _ _ _ _ _ _
   | exact regex_reader_escape.mono _ _ _ _ _ _
   | exact LeO.none _
   | refine LeO.ite ?_ ?_
   | refine LeO.bind ?_ (fun _ => ?_)
  ·intro y0 y1 y2 y3 y4 y5 y6 y7 y8 y9 y10 y11
   unfold regex_reader_set.l0
   repeat' first
   | (with_reducible exact ih0 _ _ _ _ _ _ _ _ _ _ _)
   | (with_reducible exact ih1 _ _ _ _ _ _ _ _ _ _ _ _)
   | (with_reducible exact ih2 _ _ _ _ _ _ _ _ _ _ _ _ _)
   | (with_reducible exact ih3 _ _ _ _ _ _ _ _ _ _ _ _)
   | (with_reducible exact ih4 _ _ _ _ _ _ _ _ _ _ _ _ _ _)
   | (with_reducible exact ih5 _ _ _ _ _ _ _ _ _ _ _ _ _)
   | (with_reducible exact ih6 _ _ _ _ _ _ _ _ _ _ _ _ _)
   | (with_reducible exact regex_reader_escape.mono _ _ _ _ _ _)
   | (with_reducible exact LeO.refl _)
   | (with_reducible exact LeO.none _)
   | (with_reducible refine LeO.ite ?_ ?_)
   | (with_reducible refine LeO.bind ?_ (fun _ => ?_))
   | exact ih0 _ _ _ _ _ _ _ _ _ _ _
   | exact ih1 _ _ _ _ _ _ _ _ _ _ _ _
   | exact ih2 _ _ _ _ _ _ _ _ _ _ _ _ _
   | exact ih3 _ _ _ _ _ _ _ _ _ _ _ _
   | exact ih4 _ _ _ _ _ _ _ _ _ _ _ _ _ _
   | exact ih5 _ _ _ _ _ _ _ _ _ _ _ _ _
   | exact ih6 _ _ _ _ _ _ _ _ _ _ _ _ _
   | exact regex_reader_escape.mono _ _ _ _ _ _
   | exact LeO.none _
   | refine LeO.ite ?_ ?_
   | refine LeO.bind ?_ (fun _ => ?_)
  ·intro y0 y1 y2 y3 y4 y5 y6 y7 y8 y9 y10 y11 y12
   unfold regex_reader_set.j2
   repeat' first
   | (with_reducible exact ih0 _ _ _ _ _ _ _ _ _ _ _)
   | (with_reducible exact ih1 _ _ _ _ _ _ _ _ _ _ _ _)
   | (with_reducible exact ih2 _ _ _ _ _ _ _ _ _ _ _ _ _)
   | (with_reducible exact ih3 _ _ _ _ _ _ _ _ _ _ _ _)
   | (with_reducible exact ih4 _ _ _ _ _ _ _ _ _ _ _ _ _ _)
   | (with_reducible exact ih5 _ _ _ _ _ _ _ _ _ _ _ _ _)
   | (with_reducible exact ih6 _ _ _ _ _ _ _ _ _ _ _ _ _)
   | (with_reducible exact regex_reader_escape.mono _ _ _ _ _ _)
   | (with_reducible exact LeO.refl _)
   | (with_reducible exact LeO.none _)
   | (with_reducible refine LeO.ite ?_ ?_)
   | (with_reducible refine LeO.bind ?_ (fun _ => ?_))
   | exact ih0 _ _ _ _ _ _ _ _ _ _ _
   | exact ih1 _ _ _ _ _ _ _ _ _ _ _ _
   | exact ih2 _ _ _ _ _ _ _ _ _ _ _ _ _
   | exact ih3 _ _ _ _ _ _ _ _ _ _ _ _
   | exact ih4 _ _ _ _ _ _ _ _ _ _ _ _ _ _
   | exact ih5 _ _ _ _ _ _ _ _ _ _ _ _ _
   | exact ih6 _ _ _ _ _ _ _ _ _ _ _ _ _
   | exact regex_reader_escape.mono _ _ _ _ _ _
   | exact LeO.none _
   | refine LeO.ite ?_ ?_
   | refine LeO.bind ?_ (fun _ => ?_)
  ·intro y0 y1 y2 y3 y4 y5 y6 y7 y8 y9 y10 y11
   unfold regex_reader_set.j3
   repeat' first
   | (with_reducible exact ih0 _ _ _ _ _ _ _ _ _ _ _)
   | (with_reducible exact ih1 _ _ _ _ _ _ _ _ _ _ _ _)
   | (with_reducible exact ih2 _ _ _ _ _ _ _ _ _ _ _ _ _)
   | (with_reducible exact ih3 _ _ _ _ _ _ _ _ _ _ _ _)
   | (with_reducible exact ih4 _ _ _ _ _ _ _ _ _ _ _ _ _ _)
   | (with_reducible exact ih5 _ _ _ _ _ _ _ _ _ _ _ _ _)
   | (with_reducible exact ih6 _ _ _ _ _ _ _ _ _ _ _ _ _)
   | (with_reducible exact regex_reader_escape.mono _ _ _ _ _ _)
   | (with_reducible exact LeO.refl _)
   | (with_reducible exact LeO.none _)
   | (with_reducible refine LeO.ite ?_ ?_)
   | (with_reducible refine LeO.bind ?_ (fun _ => ?_))
   | exact ih0 _ _ _ _ _ _ _ _ _ _ _
   | exact ih1 _ _ _ _ _ _ _ _ _ _ _ _
   | exact ih2 _ _ _ _ _ _ _ _ _ _ _ _ _
   | exact ih3 _ _ _ _ _ _ _ _ _ _ _ _
   | exact ih4 _ _ _ _ _ _ _ _ _ _ _ _ _ _
   | exact ih5 _ _ _ _ _ _ _ _ _ _ _ _ _
   | exact ih6 _ _ _ _ _ _ _ _ _ _ _ _ _
   | exact regex_reader_escape.mono _ _ _ _ _ _
   | exact LeO.none _
   | refine LeO.ite ?_ ?_
   | refine LeO.bind ?_ (fun _ => ?_)
  ·intro y0 y1 y2 y3 y4 y5 y6 y7 y8 y9 y10 y11 y12 y13
   unfold regex_reader_set.j4
   repeat' first
   | (with_reducible exact ih0 _ _ _ _ _ _ _ _ _ _ _)
   | (with_reducible exact ih1 _ _ _ _ _ _ _ _ _ _ _ _)
   | (with_reducible exact ih2 _ _ _ _ _ _ _ _ _ _ _ _ _)
   | (with_reducible exact ih3 _ _ _ _ _ _ _ _ _ _ _ _)
   | (with_reducible exact ih4 _ _ _ _ _ _ _ _ _ _ _ _ _ _)
   | (with_reducible exact ih5 _ _ _ _ _ _ _ _ _ _ _ _ _)
   | (with_reducible exact ih6 _ _ _ _ _ _ _ _ _ _ _ _ _)
   | (with_reducible exact regex_reader_escape.mono _ _ _ _ _ _)
   | (with_reducible exact LeO.refl _)
   | (with_reducible exact LeO.none _)
   | (with_reducible refine LeO.ite ?_ ?_)
   | (with_reducible refine LeO.bind ?_ (fun _ => ?_))
   | exact ih0 _ _ _ _ _ _ _ _ _ _ _
   | exact ih1 _ _ _ _ _ _ _ _ _ _ _ _
   | exact ih2 _ _ _ _ _ _ _ _ _ _ _ _ _
   | exact ih3 _ _ _ _ _ _ _ _ _ _ _ _
   | exact ih4 _ _ _ _ _ _ _ _ _ _ _ _ _ _
   | exact ih5 _ _ _ _ _ _ _ _ _ _ _ _ _
   | exact ih6 _ _ _ _ _ _ _ _ _ _ _ _ _
   | exact regex_reader_escape.mono _ _ _ _ _ _
   | exact LeO.none _
   | refine LeO.ite ?_ ?_
   | refine LeO.bind ?_ (fun _ => ?_)
  ·intro y0 y1 y2 y3 y4 y5 y6 y7 y8 y9 y10 y11 y12
   unfold regex_reader_set.j5
   repeat' first
   | (with_reducible exact ih0 _ _ _ _ _ _ _ _ _ _ _)
   | (with_reducible exact ih1 _ _ _ _ _ _ _ _ _ _ _ _)
   | (with_reducible exact ih2 _ _ _ _ _ _ _ _ _ _ _ _ _)
   | (with_reducible exact ih3 _ _ _ _ _ _ _ _ _ _ _ _)
   | (with_reducible exact ih4 _ _ _ _ _ _ _ _ _ _ _ _ _ _)
   | (with_reducible exact ih5 _ _ _ _ _ _ _ _ _ _ _ _ _)
   | (with_reducible exact ih6 _ _ _ _ _ _ _ _ _ _ _ _ _)
   | (with_reducible exact regex_reader_escape.mono _ _ _ _ _ _)
   | (with_reducible exact LeO.refl _)
   | (with_reducible exact LeO.none _)
   | (with_reducible refine LeO.ite ?_ ?_)
   | (with_reducible refine LeO.bind ?_ (fun _ => ?_))
   | exact ih0 _ _ _ _ _ _ _ _ _ _ _
   | exact ih1 _ _ _ _ _ _ _ _ _ _ _ _
   | exact ih2 _ _ _ _ _ _ _ _ _ _ _ _ _
   | exact ih3 _ _ _ _ _ _ _ _ _ _ _ _
   | exact ih4 _ _ _ _ _ _ _ _ _ _ _ _ _ _
   | exact ih5 _ _ _ _ _ _ _ _ _ _ _ _ _
   | exact ih6 _ _ _ _ _ _ _ _ _ _ _ _ _
   | exact regex_reader_escape.mono _ _ _ _ _ _
   | exact LeO.none _
   | refine LeO.ite ?_ ?_
   | refine LeO.bind ?_ (fun _ => ?_)
  ·intro y0 y1 y2 y3 y4 y5 y6 y7 y8 y9 y10 y11 y12
   unfold regex_reader_set.l1
   repeat' first
   | (with_reducible exact ih0 _ _ _ _ _ _ _ _ _ _ _)
   | (with_reducible exact ih1 _ _ _ _ _ _ _ _ _ _ _ _)
   | (with_reducible exact ih2 _ _ _ _ _ _ _ _ _ _ _ _ _)
   | (with_reducible exact ih3 _ _ _ _ _ _ _ _ _ _ _ _)
   | (with_reducible exact ih4 _ _ _ _ _ _ _ _ _ _ _ _ _ _)
   | (with_reducible exact ih5 _ _ _ _ _ _ _ _ _ _ _ _ _)
   | (with_reducible exact ih6 _ _ _ _ _ _ _ _ _ _ _ _ _)
   | (with_reducible exact regex_reader_escape.mono _ _ _ _ _ _)
   | (with_reducible exact LeO.refl _)
   | (with_reducible exact LeO.none _)
   | (with_reducible refine LeO.ite ?_ ?_)
   | (with_reducible refine LeO.bind ?_ (fun _ => ?_))
   | exact ih0 _ _ _ _ _ _ _ _ _ _ _
   | exact ih1 _ _ _ _ _ _ _ _ _ _ _ _
   | exact ih2 _ _ _ _ _ _ _ _ _ _ _ _ _
   | exact ih3 _ _ _ _ _ _ _ _ _ _ _ _
   | exact ih4 _ _ _ _ _ _ _ _ _ _ _ _ _ _
   | exact ih5 _ _ _ _ _ _ _ _ _ _ _ _ _
   | exact ih6 _ _ _ _ _ _ _ _ _ _ _ _ _
   | exact regex_reader_escape.mono _ _ _ _ _ _
   | exact LeO.none _
   | refine LeO.ite ?_ ?_
   | refine LeO.bind ?_ (fun _ => ?_)
theorem regex_reader_set.mono : ∀ a0 a1 a2 a3 a4 k, LeO (regex_reader_set.f k a0 a1 a2 a3 a4) (regex_reader_set.f (k + 1) a0 a1 a2 a3 a4) := by
 intro a0 a1 a2 a3 a4 k
 obtain ⟨ih0, ih1, ih2, ih3, ih4, ih5, ih6⟩ := regex_reader_set.mono_l k
 unfold regex_reader_set.f
 repeat' first
   | (with_reducible exact ih0 _ _ _ _ _ _ _ _ _ _ _)
   | (with_reducible exact ih1 _ _ _ _ _ _ _ _ _ _ _ _)
   | (with_reducible exact ih2 _ _ _ _ _ _ _ _ _ _ _ _ _)
   | (with_reducible exact ih3 _ _ _ _ _ _ _ _ _ _ _ _)
   | (with_reducible exact ih4 _ _ _ _ _ _ _ _ _ _ _ _ _ _)
   | (with_reducible exact ih5 _ _ _ _ _ _ _ _ _ _ _ _ _)
   | (with_reducible exact ih6 _ _ _ _ _ _ _ _ _ _ _ _ _)
   | (with_reducible exact regex_reader_escape.mono _ _ _ _ _ _)
   | (with_reducible exact LeO.refl _)
   | (with_reducible exact LeO.none _)
   | (with_reducible refine LeO.ite ?_ ?_)
   | (with_reducible refine LeO.bind ?_ (fun _ => ?_))
   | exact ih0 _ _ _ _ _ _ _ _ _ _ _
   | exact ih1 _ _ _ _ _ _ _ _ _ _ _ _
   | exact ih2 _ _ _ _ _ _ _ _ _ _ _ _ _
   | exact ih3 _ _ _ _ _ _ _ _ _ _ _ _
   | exact ih4 _ _ _ _ _ _ _ _ _ _ _ _ _ _
   | exact ih5 _ _ _ _ _ _ _ _ _ _ _ _ _
   | exact ih6 _ _ _ _ _ _ _ _ _ _ _ _ _
   | exact regex_reader_escape.mono _ _ _ _ _ _
   | exact LeO.none _
   | refine LeO.ite ?_ ?_
   | refine LeO.bind ?_ (fun _ => ?_)
set_option maxHeartbeats 8000000 in
set_option maxRecDepth 100000 in
theorem regex_reader_set.calls (k : Nat) (g : Nat) (s0_0 : ByteArray) (s0_1 : Int) (s0_2 : Int) (s0_3 : Int) (s0_4 : Int) (r1 : Int) (r2 : Int) (r3 : Int) (r4 : Int) (r5 : ByteArray) (r6 : Int) (r7 : Int) (r8 : Int) (r9 : Int) (w0 w : World) (hI : IsS76 w0 w g s0_0 s0_1 s0_2 s0_3 s0_4) (hB : Below w0.heap.size w0 w) (hT : TB w0) (h : regex_reader_set.f k s0_0 s0_1 s0_2 s0_3 s0_4 = some (r1, r2, r3, r4, r5, r6, r7, r8, r9)) :
  Calls Try.prog 48 #[.pointer (some ⟨g, 0, none⟩)] w fun e w' => e = .returned (.agg #[.int .u64 r1, .int .u64 r2, .int .u64 r3, .int .u64 r4]) ∧ IsS76 w0 w' g r5 r6 r7 r8 r9 ∧ Below w0.heap.size w0 w' ∧ KeepBut w w' g none := by
 have hu49 := Try.underlying49
 have HI0 := Aside0.mk hI
 have HK := Aside0.mk (KeepBut.refl w g none)
 have HL := Aside0.mk hB.size
 clear hI
 have HW0 := Aside0.mk hB.size
 have HB := Aside0.mk hB
 clear hB
 have H : ((regex_reader_next.f s0_0 s0_1 s0_2 s0_3 s0_4).bind fun bt140 => (if bt140.1 = 94 then (regex_reader_set.j0 k (wrap64 (s0_1 - 1)) true bt140.2.2.1 (wrap64 (bt140.2.2.2.1 + 1)) bt140.2.2.2.2.1 bt140.2.2.2.2.2.1 bt140.2.2.2.2.2.2 0 0 0 0) else (regex_reader_set.j0 k (wrap64 (s0_1 - 1)) false bt140.2.2.1 bt140.2.2.2.1 bt140.2.2.2.2.1 bt140.2.2.2.2.2.1 bt140.2.2.2.2.2.2 0 0 0 0))) = some (r1, r2, r3, r4, r5, r6, r7, r8, r9) := h
 clear h
 replace H := Option.bind_eq_some_iff.mp H
 obtain ⟨⟨t140, t141, t142, t143, t144, t145, t146⟩, A20, H⟩ := H
 replace H : (if t140 = 94 then (regex_reader_set.j0 k (wrap64 (s0_1 - 1)) true t142 (wrap64 (t143 + 1)) t144 t145 t146 0 0 0 0) else (regex_reader_set.j0 k (wrap64 (s0_1 - 1)) false t142 t143 t144 t145 t146 0 0 0 0)) = some (r1, r2, r3, r4, r5, r6, r7, r8, r9) := H
 have A2 := Aside0.mk A20
 clear A20
 have HC3 := Aside0.mk H
 clear H
 go_enter Try.func48, Try.ntmps48
 go_upto_if 25 with (first | ((with_reducible refine gate_dst (N := 2) rfl ?_); refine box_event ?hg (N := 2) ?hd (cs := #[.int .u64 0, .int .u64 0, .int .u64 0, .int .u64 0]) (t := 49) ?hr ?_; (case hd => rfl); (case hg => rfl); (case hr => first | (go_simp; done) | (go_simp; rfl)); intro gb138 hg w4 hbox hb; have n0_ := Aside0.mk (IsS76.below qb13 hb); have n1_ := Aside0.mk (KeepBut.trans qb9 (KeepBut.of_below hb g none) (.inl rfl)); have n2_ := Aside0.mk (below_step qb15 hb); have n3_ := Aside0.mk (hbox); have n4_ := Aside0.mk ((by rw [hg]; exact (keep_size (w := w) (g := g) (row := none) qb9) : w.heap.size ≤ gb138)); have n5_ := Aside0.mk ((Nat.le_trans HW0.out (by rw [hg]; exact (keep_size (w := w) (g := g) (row := none) qb9) : w.heap.size ≤ gb138) : w0.heap.size ≤ gb138)); have n6_ := Aside0.mk ((by rw [hg]; exact Nat.ne_of_lt (IsS76.lt (show IsS76 w0 _ g s0_0 s0_1 s0_2 s0_3 s0_4 from by repeat (first | (with_reducible first | exact HI0.out | apply IsS76.alloc | apply IsS76.drewN | apply IsS76.drew | apply IsS76.set_0 | apply IsS76.set_1 | apply IsS76.set_2 | apply IsS76.set_3 | apply IsS76.set_4) | exact HI0.out))) : g ≠ gb138)); have n7_ := Aside0.mk ((by rw [hg]; exact Nat.ne_of_gt (IsS76.lt (show IsS76 w0 _ g s0_0 s0_1 s0_2 s0_3 s0_4 from by repeat (first | (with_reducible first | exact HI0.out | apply IsS76.alloc | apply IsS76.drewN | apply IsS76.drew | apply IsS76.set_0 | apply IsS76.set_1 | apply IsS76.set_2 | apply IsS76.set_3 | apply IsS76.set_4) | exact HI0.out))) : gb138 ≠ g)); clear HI0; clear HK; clear HB; have HI0 := n0_; have HK := n1_; have HB := n2_; have BK138 := n3_; have GW138 := n4_; have GE138 := n5_; have NB0_138 := n6_; have NB138_0 := n7_; clear n0_ n1_ n2_ n3_ n4_ n5_ n6_ n7_; clear hb hbox hg; obtain ⟨HGz5, hgz5⟩ := HI0.out; have hcz5_0 := cellS76_0 HGz5; have hcz5_1 := cellS76_1 HGz5; have hcz5_2 := cellS76_2 HGz5; have hcz5_3 := cellS76_3 HGz5; have hcz5_4 := cellS76_4 HGz5; have hfz5_0 := blk_frozen HGz5 0; have hfz5_1 := blk_frozen HGz5 1; have hfz5_2 := blk_frozen HGz5 2; have hfz5_3 := blk_frozen HGz5 3; have hfz5_4 := blk_frozen HGz5 4; clear HGz5 hgz5) | ((with_reducible refine gate_dst (N := 4) rfl ?_); refine box_event ?hg (N := 4) ?hd (cs := #[.int .u64 0, .int .u64 0, .int .u64 0, .int .u64 0]) (t := 49) ?hr ?_; (case hd => rfl); (case hg => rfl); (case hr => first | (go_simp; done) | (go_simp; rfl)); intro gb139 hg w6 hbox hb; have n0_ := Aside0.mk (IsS76.below qb12 hb); have n1_ := Aside0.mk (blk_below (g := gb138) (o := .cells #[.int .u64 0, .int .u64 0, .int .u64 0, .int .u64 0] 49 (0, 0)) qb1 hb); have n2_ := Aside0.mk (KeepBut.trans qb7 (KeepBut.of_below hb g none) (.inl rfl)); have n3_ := Aside0.mk (below_step qb14 hb); have n4_ := Aside0.mk (hbox); have n5_ := Aside0.mk ((by rw [hg]; exact (keep_size (w := w) (g := g) (row := none) qb7) : w.heap.size ≤ gb139)); have n6_ := Aside0.mk ((Nat.le_trans HW0.out (by rw [hg]; exact (keep_size (w := w) (g := g) (row := none) qb7) : w.heap.size ≤ gb139) : w0.heap.size ≤ gb139)); have n7_ := Aside0.mk ((by rw [hg]; exact Nat.ne_of_lt (blk_lt (g := gb138) (o := .cells #[.int .u64 0, .int .u64 0, .int .u64 0, .int .u64 0] 49 (0, 0)) qb1) : gb138 ≠ gb139)); have n8_ := Aside0.mk ((by rw [hg]; exact Nat.ne_of_gt (blk_lt (g := gb138) (o := .cells #[.int .u64 0, .int .u64 0, .int .u64 0, .int .u64 0] 49 (0, 0)) qb1) : gb139 ≠ gb138)); have n9_ := Aside0.mk ((by rw [hg]; exact Nat.ne_of_lt (IsS76.lt (show IsS76 w0 _ g s0_0 s0_1 s0_2 s0_3 s0_4 from by repeat (first | (with_reducible first | exact HI0.out | apply IsS76.alloc | apply IsS76.drewN | apply IsS76.drew | apply IsS76.set_0 | apply IsS76.set_1 | apply IsS76.set_2 | apply IsS76.set_3 | apply IsS76.set_4 | apply IsS76.far (hne := NB0_138.out)) | exact HI0.out))) : g ≠ gb139)); have n10_ := Aside0.mk ((by rw [hg]; exact Nat.ne_of_gt (IsS76.lt (show IsS76 w0 _ g s0_0 s0_1 s0_2 s0_3 s0_4 from by repeat (first | (with_reducible first | exact HI0.out | apply IsS76.alloc | apply IsS76.drewN | apply IsS76.drew | apply IsS76.set_0 | apply IsS76.set_1 | apply IsS76.set_2 | apply IsS76.set_3 | apply IsS76.set_4 | apply IsS76.far (hne := NB0_138.out)) | exact HI0.out))) : gb139 ≠ g)); clear HI0; clear BK138; clear HK; clear HB; have HI0 := n0_; have BK138 := n1_; have HK := n2_; have HB := n3_; have BK139 := n4_; have GW139 := n5_; have GE139 := n6_; have NB138_139 := n7_; have NB139_138 := n8_; have NB0_139 := n9_; have NB139_0 := n10_; clear n0_ n1_ n2_ n3_ n4_ n5_ n6_ n7_ n8_ n9_ n10_; clear hb hbox hg) | (go_at_call 36; (with_reducible refine (regex_reader_next.calls g s0_0 s0_1 s0_2 s0_3 s0_4 t140 t141 t142 t143 t144 t145 t146 w0 _ ?side1 ?side2 ?side3 A2.out).mono ?_); (case side1 => repeat (first | (with_reducible first | exact HI0.out | apply IsS76.alloc | apply IsS76.drewN | apply IsS76.drew | apply IsS76.set_0 | apply IsS76.set_1 | apply IsS76.set_2 | apply IsS76.set_3 | apply IsS76.set_4 | apply IsS76.far (hne := NB0_138.out) | apply IsS76.far (hne := NB0_139.out)) | exact HI0.out)); (case side2 => repeat (first | (with_reducible first | exact HB.out | apply below_alloc | apply pw_below_drewN | apply below_drew1 | refine below_set ?_ (IsS76.ge HI0.out) | refine below_set ?_ GE138.out | refine below_set ?_ GE139.out) | exact HB.out)); (case side3 => exact hT); rintro e w7 ⟨rfl, hi, hb, hk⟩; have n0_ := Aside0.mk (KeepBut.blk hk (g' := gb138) (o := .cells #[.int .u64 0, .int .u64 0, .int .u64 0, .int .u64 0] 49 (0, 0)) qb1 NB138_0.out (by simp)); have n1_ := Aside0.mk (KeepBut.blk hk (g' := gb139) (o := .cells #[.int .u64 0, .int .u64 0, .int .u64 0, .int .u64 0] 49 (0, 0)) qb3 NB139_0.out (by simp)); have n2_ := Aside0.mk (KeepBut.trans qb0 hk (.inl rfl)); have n3_ := Aside0.mk (hb); have n4_ := Aside0.mk (hi); clear BK138; clear BK139; clear HK; clear HB; clear HI0; have BK138 := n0_; have BK139 := n1_; have HK := n2_; have HB := n3_; have HI0 := n4_; clear n0_ n1_ n2_ n3_ n4_; (try clear hb); (try clear hb2); (try clear hk); (try clear hi)))
 repeat (go_quiet (first | ((with_reducible refine gate_dst (N := 2) rfl ?_); refine box_event ?hg (N := 2) ?hd (cs := #[.int .u64 0, .int .u64 0, .int .u64 0, .int .u64 0]) (t := 49) ?hr ?_; (case hd => rfl); (case hg => rfl); (case hr => first | (go_simp; done) | (go_simp; rfl)); intro gb138 hg w4 hbox hb; have n0_ := Aside0.mk (IsS76.below qb13 hb); have n1_ := Aside0.mk (KeepBut.trans qb9 (KeepBut.of_below hb g none) (.inl rfl)); have n2_ := Aside0.mk (below_step qb15 hb); have n3_ := Aside0.mk (hbox); have n4_ := Aside0.mk ((by rw [hg]; exact (keep_size (w := w) (g := g) (row := none) qb9) : w.heap.size ≤ gb138)); have n5_ := Aside0.mk ((Nat.le_trans HW0.out (by rw [hg]; exact (keep_size (w := w) (g := g) (row := none) qb9) : w.heap.size ≤ gb138) : w0.heap.size ≤ gb138)); have n6_ := Aside0.mk ((by rw [hg]; exact Nat.ne_of_lt (IsS76.lt (show IsS76 w0 _ g s0_0 s0_1 s0_2 s0_3 s0_4 from by repeat (first | (with_reducible first | exact HI0.out | apply IsS76.alloc | apply IsS76.drewN | apply IsS76.drew | apply IsS76.set_0 | apply IsS76.set_1 | apply IsS76.set_2 | apply IsS76.set_3 | apply IsS76.set_4) | exact HI0.out))) : g ≠ gb138)); have n7_ := Aside0.mk ((by rw [hg]; exact Nat.ne_of_gt (IsS76.lt (show IsS76 w0 _ g s0_0 s0_1 s0_2 s0_3 s0_4 from by repeat (first | (with_reducible first | exact HI0.out | apply IsS76.alloc | apply IsS76.drewN | apply IsS76.drew | apply IsS76.set_0 | apply IsS76.set_1 | apply IsS76.set_2 | apply IsS76.set_3 | apply IsS76.set_4) | exact HI0.out))) : gb138 ≠ g)); clear HI0; clear HK; clear HB; have HI0 := n0_; have HK := n1_; have HB := n2_; have BK138 := n3_; have GW138 := n4_; have GE138 := n5_; have NB0_138 := n6_; have NB138_0 := n7_; clear n0_ n1_ n2_ n3_ n4_ n5_ n6_ n7_; clear hb hbox hg; obtain ⟨HGz5, hgz5⟩ := HI0.out; have hcz5_0 := cellS76_0 HGz5; have hcz5_1 := cellS76_1 HGz5; have hcz5_2 := cellS76_2 HGz5; have hcz5_3 := cellS76_3 HGz5; have hcz5_4 := cellS76_4 HGz5; have hfz5_0 := blk_frozen HGz5 0; have hfz5_1 := blk_frozen HGz5 1; have hfz5_2 := blk_frozen HGz5 2; have hfz5_3 := blk_frozen HGz5 3; have hfz5_4 := blk_frozen HGz5 4; clear HGz5 hgz5) | ((with_reducible refine gate_dst (N := 4) rfl ?_); refine box_event ?hg (N := 4) ?hd (cs := #[.int .u64 0, .int .u64 0, .int .u64 0, .int .u64 0]) (t := 49) ?hr ?_; (case hd => rfl); (case hg => rfl); (case hr => first | (go_simp; done) | (go_simp; rfl)); intro gb139 hg w6 hbox hb; have n0_ := Aside0.mk (IsS76.below qb12 hb); have n1_ := Aside0.mk (blk_below (g := gb138) (o := .cells #[.int .u64 0, .int .u64 0, .int .u64 0, .int .u64 0] 49 (0, 0)) qb1 hb); have n2_ := Aside0.mk (KeepBut.trans qb7 (KeepBut.of_below hb g none) (.inl rfl)); have n3_ := Aside0.mk (below_step qb14 hb); have n4_ := Aside0.mk (hbox); have n5_ := Aside0.mk ((by rw [hg]; exact (keep_size (w := w) (g := g) (row := none) qb7) : w.heap.size ≤ gb139)); have n6_ := Aside0.mk ((Nat.le_trans HW0.out (by rw [hg]; exact (keep_size (w := w) (g := g) (row := none) qb7) : w.heap.size ≤ gb139) : w0.heap.size ≤ gb139)); have n7_ := Aside0.mk ((by rw [hg]; exact Nat.ne_of_lt (blk_lt (g := gb138) (o := .cells #[.int .u64 0, .int .u64 0, .int .u64 0, .int .u64 0] 49 (0, 0)) qb1) : gb138 ≠ gb139)); have n8_ := Aside0.mk ((by rw [hg]; exact Nat.ne_of_gt (blk_lt (g := gb138) (o := .cells #[.int .u64 0, .int .u64 0, .int .u64 0, .int .u64 0] 49 (0, 0)) qb1) : gb139 ≠ gb138)); have n9_ := Aside0.mk ((by rw [hg]; exact Nat.ne_of_lt (IsS76.lt (show IsS76 w0 _ g s0_0 s0_1 s0_2 s0_3 s0_4 from by repeat (first | (with_reducible first | exact HI0.out | apply IsS76.alloc | apply IsS76.drewN | apply IsS76.drew | apply IsS76.set_0 | apply IsS76.set_1 | apply IsS76.set_2 | apply IsS76.set_3 | apply IsS76.set_4 | apply IsS76.far (hne := NB0_138.out)) | exact HI0.out))) : g ≠ gb139)); have n10_ := Aside0.mk ((by rw [hg]; exact Nat.ne_of_gt (IsS76.lt (show IsS76 w0 _ g s0_0 s0_1 s0_2 s0_3 s0_4 from by repeat (first | (with_reducible first | exact HI0.out | apply IsS76.alloc | apply IsS76.drewN | apply IsS76.drew | apply IsS76.set_0 | apply IsS76.set_1 | apply IsS76.set_2 | apply IsS76.set_3 | apply IsS76.set_4 | apply IsS76.far (hne := NB0_138.out)) | exact HI0.out))) : gb139 ≠ g)); clear HI0; clear BK138; clear HK; clear HB; have HI0 := n0_; have BK138 := n1_; have HK := n2_; have HB := n3_; have BK139 := n4_; have GW139 := n5_; have GE139 := n6_; have NB138_139 := n7_; have NB139_138 := n8_; have NB0_139 := n9_; have NB139_0 := n10_; clear n0_ n1_ n2_ n3_ n4_ n5_ n6_ n7_ n8_ n9_ n10_; clear hb hbox hg) | (go_at_call 36; (with_reducible refine (regex_reader_next.calls g s0_0 s0_1 s0_2 s0_3 s0_4 t140 t141 t142 t143 t144 t145 t146 w0 _ ?side1 ?side2 ?side3 A2.out).mono ?_); (case side1 => repeat (first | (with_reducible first | exact HI0.out | apply IsS76.alloc | apply IsS76.drewN | apply IsS76.drew | apply IsS76.set_0 | apply IsS76.set_1 | apply IsS76.set_2 | apply IsS76.set_3 | apply IsS76.set_4 | apply IsS76.far (hne := NB0_138.out) | apply IsS76.far (hne := NB0_139.out)) | exact HI0.out)); (case side2 => repeat (first | (with_reducible first | exact HB.out | apply below_alloc | apply pw_below_drewN | apply below_drew1 | refine below_set ?_ (IsS76.ge HI0.out) | refine below_set ?_ GE138.out | refine below_set ?_ GE139.out) | exact HB.out)); (case side3 => exact hT); rintro e w7 ⟨rfl, hi, hb, hk⟩; have n0_ := Aside0.mk (KeepBut.blk hk (g' := gb138) (o := .cells #[.int .u64 0, .int .u64 0, .int .u64 0, .int .u64 0] 49 (0, 0)) qb1 NB138_0.out (by simp)); have n1_ := Aside0.mk (KeepBut.blk hk (g' := gb139) (o := .cells #[.int .u64 0, .int .u64 0, .int .u64 0, .int .u64 0] 49 (0, 0)) qb3 NB139_0.out (by simp)); have n2_ := Aside0.mk (KeepBut.trans qb0 hk (.inl rfl)); have n3_ := Aside0.mk (hb); have n4_ := Aside0.mk (hi); clear BK138; clear BK139; clear HK; clear HB; clear HI0; have BK138 := n0_; have BK139 := n1_; have HK := n2_; have HB := n3_; have HI0 := n4_; clear n0_ n1_ n2_ n3_ n4_; (try clear hb); (try clear hb2); (try clear hk); (try clear hi))); go_upto_if 25 with (first | ((with_reducible refine gate_dst (N := 2) rfl ?_); refine box_event ?hg (N := 2) ?hd (cs := #[.int .u64 0, .int .u64 0, .int .u64 0, .int .u64 0]) (t := 49) ?hr ?_; (case hd => rfl); (case hg => rfl); (case hr => first | (go_simp; done) | (go_simp; rfl)); intro gb138 hg w4 hbox hb; have n0_ := Aside0.mk (IsS76.below qb13 hb); have n1_ := Aside0.mk (KeepBut.trans qb9 (KeepBut.of_below hb g none) (.inl rfl)); have n2_ := Aside0.mk (below_step qb15 hb); have n3_ := Aside0.mk (hbox); have n4_ := Aside0.mk ((by rw [hg]; exact (keep_size (w := w) (g := g) (row := none) qb9) : w.heap.size ≤ gb138)); have n5_ := Aside0.mk ((Nat.le_trans HW0.out (by rw [hg]; exact (keep_size (w := w) (g := g) (row := none) qb9) : w.heap.size ≤ gb138) : w0.heap.size ≤ gb138)); have n6_ := Aside0.mk ((by rw [hg]; exact Nat.ne_of_lt (IsS76.lt (show IsS76 w0 _ g s0_0 s0_1 s0_2 s0_3 s0_4 from by repeat (first | (with_reducible first | exact HI0.out | apply IsS76.alloc | apply IsS76.drewN | apply IsS76.drew | apply IsS76.set_0 | apply IsS76.set_1 | apply IsS76.set_2 | apply IsS76.set_3 | apply IsS76.set_4) | exact HI0.out))) : g ≠ gb138)); have n7_ := Aside0.mk ((by rw [hg]; exact Nat.ne_of_gt (IsS76.lt (show IsS76 w0 _ g s0_0 s0_1 s0_2 s0_3 s0_4 from by repeat (first | (with_reducible first | exact HI0.out | apply IsS76.alloc | apply IsS76.drewN | apply IsS76.drew | apply IsS76.set_0 | apply IsS76.set_1 | apply IsS76.set_2 | apply IsS76.set_3 | apply IsS76.set_4) | exact HI0.out))) : gb138 ≠ g)); clear HI0; clear HK; clear HB; have HI0 := n0_; have HK := n1_; have HB := n2_; have BK138 := n3_; have GW138 := n4_; have GE138 := n5_; have NB0_138 := n6_; have NB138_0 := n7_; clear n0_ n1_ n2_ n3_ n4_ n5_ n6_ n7_; clear hb hbox hg; obtain ⟨HGz5, hgz5⟩ := HI0.out; have hcz5_0 := cellS76_0 HGz5; have hcz5_1 := cellS76_1 HGz5; have hcz5_2 := cellS76_2 HGz5; have hcz5_3 := cellS76_3 HGz5; have hcz5_4 := cellS76_4 HGz5; have hfz5_0 := blk_frozen HGz5 0; have hfz5_1 := blk_frozen HGz5 1; have hfz5_2 := blk_frozen HGz5 2; have hfz5_3 := blk_frozen HGz5 3; have hfz5_4 := blk_frozen HGz5 4; clear HGz5 hgz5) | ((with_reducible refine gate_dst (N := 4) rfl ?_); refine box_event ?hg (N := 4) ?hd (cs := #[.int .u64 0, .int .u64 0, .int .u64 0, .int .u64 0]) (t := 49) ?hr ?_; (case hd => rfl); (case hg => rfl); (case hr => first | (go_simp; done) | (go_simp; rfl)); intro gb139 hg w6 hbox hb; have n0_ := Aside0.mk (IsS76.below qb12 hb); have n1_ := Aside0.mk (blk_below (g := gb138) (o := .cells #[.int .u64 0, .int .u64 0, .int .u64 0, .int .u64 0] 49 (0, 0)) qb1 hb); have n2_ := Aside0.mk (KeepBut.trans qb7 (KeepBut.of_below hb g none) (.inl rfl)); have n3_ := Aside0.mk (below_step qb14 hb); have n4_ := Aside0.mk (hbox); have n5_ := Aside0.mk ((by rw [hg]; exact (keep_size (w := w) (g := g) (row := none) qb7) : w.heap.size ≤ gb139)); have n6_ := Aside0.mk ((Nat.le_trans HW0.out (by rw [hg]; exact (keep_size (w := w) (g := g) (row := none) qb7) : w.heap.size ≤ gb139) : w0.heap.size ≤ gb139)); have n7_ := Aside0.mk ((by rw [hg]; exact Nat.ne_of_lt (blk_lt (g := gb138) (o := .cells #[.int .u64 0, .int .u64 0, .int .u64 0, .int .u64 0] 49 (0, 0)) qb1) : gb138 ≠ gb139)); have n8_ := Aside0.mk ((by rw [hg]; exact Nat.ne_of_gt (blk_lt (g := gb138) (o := .cells #[.int .u64 0, .int .u64 0, .int .u64 0, .int .u64 0] 49 (0, 0)) qb1) : gb139 ≠ gb138)); have n9_ := Aside0.mk ((by rw [hg]; exact Nat.ne_of_lt (IsS76.lt (show IsS76 w0 _ g s0_0 s0_1 s0_2 s0_3 s0_4 from by repeat (first | (with_reducible first | exact HI0.out | apply IsS76.alloc | apply IsS76.drewN | apply IsS76.drew | apply IsS76.set_0 | apply IsS76.set_1 | apply IsS76.set_2 | apply IsS76.set_3 | apply IsS76.set_4 | apply IsS76.far (hne := NB0_138.out)) | exact HI0.out))) : g ≠ gb139)); have n10_ := Aside0.mk ((by rw [hg]; exact Nat.ne_of_gt (IsS76.lt (show IsS76 w0 _ g s0_0 s0_1 s0_2 s0_3 s0_4 from by repeat (first | (with_reducible first | exact HI0.out | apply IsS76.alloc | apply IsS76.drewN | apply IsS76.drew | apply IsS76.set_0 | apply IsS76.set_1 | apply IsS76.set_2 | apply IsS76.set_3 | apply IsS76.set_4 | apply IsS76.far (hne := NB0_138.out)) | exact HI0.out))) : gb139 ≠ g)); clear HI0; clear BK138; clear HK; clear HB; have HI0 := n0_; have BK138 := n1_; have HK := n2_; have HB := n3_; have BK139 := n4_; have GW139 := n5_; have GE139 := n6_; have NB138_139 := n7_; have NB139_138 := n8_; have NB0_139 := n9_; have NB139_0 := n10_; clear n0_ n1_ n2_ n3_ n4_ n5_ n6_ n7_ n8_ n9_ n10_; clear hb hbox hg) | (go_at_call 36; (with_reducible refine (regex_reader_next.calls g s0_0 s0_1 s0_2 s0_3 s0_4 t140 t141 t142 t143 t144 t145 t146 w0 _ ?side1 ?side2 ?side3 A2.out).mono ?_); (case side1 => repeat (first | (with_reducible first | exact HI0.out | apply IsS76.alloc | apply IsS76.drewN | apply IsS76.drew | apply IsS76.set_0 | apply IsS76.set_1 | apply IsS76.set_2 | apply IsS76.set_3 | apply IsS76.set_4 | apply IsS76.far (hne := NB0_138.out) | apply IsS76.far (hne := NB0_139.out)) | exact HI0.out)); (case side2 => repeat (first | (with_reducible first | exact HB.out | apply below_alloc | apply pw_below_drewN | apply below_drew1 | refine below_set ?_ (IsS76.ge HI0.out) | refine below_set ?_ GE138.out | refine below_set ?_ GE139.out) | exact HB.out)); (case side3 => exact hT); rintro e w7 ⟨rfl, hi, hb, hk⟩; have n0_ := Aside0.mk (KeepBut.blk hk (g' := gb138) (o := .cells #[.int .u64 0, .int .u64 0, .int .u64 0, .int .u64 0] 49 (0, 0)) qb1 NB138_0.out (by simp)); have n1_ := Aside0.mk (KeepBut.blk hk (g' := gb139) (o := .cells #[.int .u64 0, .int .u64 0, .int .u64 0, .int .u64 0] 49 (0, 0)) qb3 NB139_0.out (by simp)); have n2_ := Aside0.mk (KeepBut.trans qb0 hk (.inl rfl)); have n3_ := Aside0.mk (hb); have n4_ := Aside0.mk (hi); clear BK138; clear BK139; clear HK; clear HB; clear HI0; have BK138 := n0_; have BK139 := n1_; have HK := n2_; have HB := n3_; have HI0 := n4_; clear n0_ n1_ n2_ n3_ n4_; (try clear hb); (try clear hb2); (try clear hk); (try clear hi))))
 (try simp only [Act.put, List.setIfInBounds_toArray, List.set_cons_zero, List.set_cons_succ])
 go_cut [7] (fun v7 wc => ∃ (kq : Nat) (x7_2 : Bool) (x1001_2 : Int), v7 = .bool x7_2 ∧ Aside0 (regex_reader_set.j0 kq (wrap64 (s0_1 - 1)) x7_2 t142 x1001_2 t144 t145 t146 0 0 0 0 = some (r1, r2, r3, r4, r5, r6, r7, r8, r9)) ∧ Aside0 (kq ≤ k) ∧ Aside0 (wc.heap[gb138]? = some (.cells #[.int .u64 0, .int .u64 0, .int .u64 0, .int .u64 0] 49 (0, 0))) ∧ Aside0 (wc.heap[gb139]? = some (.cells #[.int .u64 0, .int .u64 0, .int .u64 0, .int .u64 0] 49 (0, 0))) ∧ Aside0 (IsS76 w0 wc g t142 x1001_2 t144 t145 t146) ∧ Aside0 (KeepBut w wc g none) ∧ Aside0 (Below w0.heap.size w0 wc))
 case first =>
  have H := HC3.out
  clear HC3
  by_cases c8 : t140 = 94
  ·rw [if_pos c8] at H
   have c8b0 : (t140 == 94) = true := beq_iff_eq.mpr c8
   have c8b1 : (t140 != 94) = false := bne_eq_false_iff_eq.mpr c8
   clear c8
   (first | rw [c8b0] | (simp only [i64_w, i32_w]; rw [c8b0]) | skip)
   have H' := Aside0.mk H
   clear H
   obtain ⟨HGz9, hgz9⟩ := HI0.out
   have hcz9_0 := cellS76_0 HGz9
   have hcz9_1 := cellS76_1 HGz9
   have hcz9_2 := cellS76_2 HGz9
   have hcz9_3 := cellS76_3 HGz9
   have hcz9_4 := cellS76_4 HGz9
   have hfz9_0 := blk_frozen HGz9 0
   have hfz9_1 := blk_frozen HGz9 1
   have hfz9_2 := blk_frozen HGz9 2
   have hfz9_3 := blk_frozen HGz9 3
   have hfz9_4 := blk_frozen HGz9 4
   clear HGz9 hgz9
   go_wp2
   repeat (go_quiet (fail); try go_wp2)
   go_meet
   case rel => exact ⟨_, (true), (wrap64 (t143 + 1)), qb8, H', ⟨by first | omega | exact Nat.le_refl _⟩, ⟨by (with_reducible repeat (first | refine blk_drewN ?_ _ | refine blk_drew ?_ | refine blk_alloc ?_ _)); refine blk_far ?_ NB138_0.out _; (with_reducible repeat (first | refine blk_drewN ?_ _ | refine blk_drew ?_ | refine blk_alloc ?_ _)); exact BK138.out⟩, ⟨by (with_reducible repeat (first | refine blk_drewN ?_ _ | refine blk_drew ?_ | refine blk_alloc ?_ _)); refine blk_far ?_ NB139_0.out _; (with_reducible repeat (first | refine blk_drewN ?_ _ | refine blk_drew ?_ | refine blk_alloc ?_ _)); exact BK139.out⟩, ⟨by repeat (first | (with_reducible first | exact HI0.out | apply IsS76.alloc | apply IsS76.drewN | apply IsS76.drew | apply IsS76.set_0 | apply IsS76.set_1 | apply IsS76.set_2 | apply IsS76.set_3 | apply IsS76.set_4 | apply IsS76.far (hne := NB0_138.out) | apply IsS76.far (hne := NB0_139.out)) | exact HI0.out)⟩, ⟨by repeat (first | (with_reducible first | exact HK.out | apply KeepBut.set_ | apply keep_drewN | apply keep_drew | apply keep_alloc | refine keep_far ?_ GW138.out _ | refine keep_far ?_ GW139.out _) | exact HK.out)⟩, ⟨by repeat (first | (with_reducible first | exact HB.out | apply below_alloc | apply pw_below_drewN | apply below_drew1 | refine below_set ?_ (IsS76.ge HI0.out) | refine below_set ?_ GE138.out | refine below_set ?_ GE139.out) | exact HB.out)⟩⟩
  ·rw [if_neg c8] at H
   have c8b0 : (t140 == 94) = false := beq_eq_false_iff_ne.mpr c8
   have c8b1 : (t140 != 94) = true := bne_iff_ne.mpr c8
   (first | rw [c8b0] | (simp only [i64_w, i32_w]; rw [c8b0]) | skip)
   have H' := Aside0.mk H
   clear H
   go_wp2
   repeat (go_quiet (fail); try go_wp2)
   go_meet
   case rel => exact ⟨_, (false), (t143), qb8, H', ⟨by first | omega | exact Nat.le_refl _⟩, ⟨by (with_reducible repeat (first | refine blk_drewN ?_ _ | refine blk_drew ?_ | refine blk_alloc ?_ _)); exact BK138.out⟩, ⟨by (with_reducible repeat (first | refine blk_drewN ?_ _ | refine blk_drew ?_ | refine blk_alloc ?_ _)); exact BK139.out⟩, ⟨by repeat (first | (with_reducible first | exact HI0.out | apply IsS76.alloc | apply IsS76.drewN | apply IsS76.drew | apply IsS76.set_0 | apply IsS76.set_1 | apply IsS76.set_2 | apply IsS76.set_3 | apply IsS76.set_4 | apply IsS76.far (hne := NB0_138.out) | apply IsS76.far (hne := NB0_139.out)) | exact HI0.out)⟩, ⟨by repeat (first | (with_reducible first | exact HK.out | apply KeepBut.set_ | apply keep_drewN | apply keep_drew | apply keep_alloc | refine keep_far ?_ GW138.out _ | refine keep_far ?_ GW139.out _) | exact HK.out)⟩, ⟨by repeat (first | (with_reducible first | exact HB.out | apply below_alloc | apply pw_below_drewN | apply below_drew1 | refine below_set ?_ (IsS76.ge HI0.out) | refine below_set ?_ GE138.out | refine below_set ?_ GE139.out) | exact HB.out)⟩⟩
 case rest =>
  clear HC3
  try clear p2
  try clear c4
  try clear p6
  try clear c8
  try clear c8b0
  try clear c8b1
  try clear hcz5_0
  try clear hcz5_1
  try clear hcz5_2
  try clear hcz5_3
  try clear hcz5_4
  try clear hcz9_0
  try clear hcz9_1
  try clear hcz9_2
  try clear hcz9_3
  try clear hcz9_4
  try clear hfz5_0
  try clear hfz5_1
  try clear hfz5_2
  try clear hfz5_3
  try clear hfz5_4
  try clear hfz9_0
  try clear hfz9_1
  try clear hfz9_2
  try clear hfz9_3
  try clear hfz9_4
  obtain ⟨kq, x7_2, x1001_2, rfl, HA, HJ2, BK138, BK139, HI0, HK, HB⟩ := hcut
  cases kq with
  | zero => exact absurd HA.out (by simp [regex_reader_set.j0])
  | succ kj2 =>
   have H := HA.out
   clear HA
   simp only [regex_reader_set.j0] at H
   have H' := Aside0.mk H
   clear H
   go_wp2
   repeat (go_quiet (fail); try go_wp2)
   go_loopg [8] kj2 (fun kq v8 w' => ∃ (x8_2 : Bool) (x1000_2 : ByteArray) (x1001_2 : Int) (x1002_2 : Int) (x1003_2 : Int) (x1004_2 : Int) (x140000_2 : Int) (x140001_2 : Int) (x140002_2 : Int) (x140003_2 : Int), v8 = .bool x8_2 ∧ Aside0 (regex_reader_set.l0 kq (wrap64 (s0_1 - 1)) x7_2 x8_2 x1000_2 x1001_2 x1002_2 x1003_2 x1004_2 x140000_2 x140001_2 x140002_2 x140003_2 = some (r1, r2, r3, r4, r5, r6, r7, r8, r9)) ∧ Aside0 (kq ≤ kj2) ∧ Aside0 (w'.heap[gb138]? = some (.cells #[.int .u64 0, .int .u64 0, .int .u64 0, .int .u64 0] 49 (0, 0))) ∧ Aside0 (w'.heap[gb139]? = some (.cells #[.int .u64 x140000_2, .int .u64 x140001_2, .int .u64 x140002_2, .int .u64 x140003_2] 49 (0, 0))) ∧ Aside0 (IsS76 w0 w' g x1000_2 x1001_2 x1002_2 x1003_2 x1004_2) ∧ Aside0 (KeepBut w w' g none) ∧ Aside0 (Below w0.heap.size w0 w'))
   case atStart => exact ⟨(true), (t142), (x1001_2), (t144), (t145), (t146), (0), (0), (0), (0), qb8, H', ⟨Nat.le_refl _⟩, ⟨by (with_reducible repeat (first | refine blk_drewN ?_ _ | refine blk_drew ?_ | refine blk_alloc ?_ _)); exact BK138.out⟩, ⟨by (with_reducible repeat (first | refine blk_drewN ?_ _ | refine blk_drew ?_ | refine blk_alloc ?_ _)); exact BK139.out⟩, ⟨by repeat (first | (with_reducible first | exact HI0.out | apply IsS76.alloc | apply IsS76.drewN | apply IsS76.drew | apply IsS76.set_0 | apply IsS76.set_1 | apply IsS76.set_2 | apply IsS76.set_3 | apply IsS76.set_4 | apply IsS76.far (hne := NB0_138.out) | apply IsS76.far (hne := NB0_139.out)) | exact HI0.out)⟩, ⟨by repeat (first | (with_reducible first | exact HK.out | apply KeepBut.set_ | apply keep_drewN | apply keep_drew | apply keep_alloc | refine keep_far ?_ GW138.out _ | refine keep_far ?_ GW139.out _) | exact HK.out)⟩, ⟨by repeat (first | (with_reducible first | exact HB.out | apply below_alloc | apply pw_below_drewN | apply below_drew1 | refine below_set ?_ (IsS76.ge HI0.out) | refine below_set ?_ GE138.out | refine below_set ?_ GE139.out) | exact HB.out)⟩⟩
   case round =>
    clear H'
    try clear p2
    try clear c4
    try clear p6
    try clear c8
    try clear c8b0
    try clear c8b1
    try clear hcz5_0
    try clear hcz5_1
    try clear hcz5_2
    try clear hcz5_3
    try clear hcz5_4
    try clear hcz9_0
    try clear hcz9_1
    try clear hcz9_2
    try clear hcz9_3
    try clear hcz9_4
    try clear hfz5_0
    try clear hfz5_1
    try clear hfz5_2
    try clear hfz5_3
    try clear hfz5_4
    try clear hfz9_0
    try clear hfz9_1
    try clear hfz9_2
    try clear hfz9_3
    try clear hfz9_4
    try clear p2
    try clear p6
    obtain ⟨x8_2, x1000_2, x1001_2, x1002_2, x1003_2, x1004_2, x140000_2, x140001_2, x140002_2, x140003_2, rfl, HA, HK2, BK138, BK139, HI0, HK, HB⟩ := hrel
    cases gk with
    | zero => exact absurd HA.out (by simp [regex_reader_set.l0])
    | succ k2 =>
     have H := HA.out
     clear HA
     simp only [regex_reader_set.l0] at H
     replace H := Option.bind_eq_some_iff.mp H
     obtain ⟨⟨t147, t148, t149, t150, t151, t152, t153⟩, A100, H⟩ := H
     replace H : (if t148 = true then (if t147 = 93 then (regex_reader_set.j2 k2 (wrap64 (s0_1 - 1)) x7_2 t147 (!x8_2) t149 (wrap64 (t150 + 1)) t151 t152 t153 x140000_2 x140001_2 x140002_2 x140003_2) else (regex_reader_set.j2 k2 (wrap64 (s0_1 - 1)) x7_2 t147 false t149 (wrap64 (t150 + 1)) t151 t152 t153 x140000_2 x140001_2 x140002_2 x140003_2)) else ((regex_reader_fail.f t149 t150 t151 t152 t153 (wrap64 (s0_1 - 1)) 9).bind fun bt154 => (if x7_2 = true then ((regex_Set_Not.f x140000_2 x140001_2 x140002_2 x140003_2).bind fun bt159 => (some (bt159.1, bt159.2.1, bt159.2.2.1, bt159.2.2.2, bt154.1, bt154.2.1, bt154.2.2.1, bt154.2.2.2.1, bt154.2.2.2.2))) else (some (x140000_2, x140001_2, x140002_2, x140003_2, bt154.1, bt154.2.1, bt154.2.2.1, bt154.2.2.2.1, bt154.2.2.2.2))))) = some (r1, r2, r3, r4, r5, r6, r7, r8, r9) := H
     have A10 := Aside0.mk A100
     clear A100
     by_cases c11 : t148 = true
     ·subst c11
      have H1 : (if t147 = 93 then (regex_reader_set.j2 k2 (wrap64 (s0_1 - 1)) x7_2 t147 (!x8_2) t149 (wrap64 (t150 + 1)) t151 t152 t153 x140000_2 x140001_2 x140002_2 x140003_2) else (regex_reader_set.j2 k2 (wrap64 (s0_1 - 1)) x7_2 t147 false t149 (wrap64 (t150 + 1)) t151 t152 t153 x140000_2 x140001_2 x140002_2 x140003_2)) = some (r1, r2, r3, r4, r5, r6, r7, r8, r9) := by rw [if_pos rfl] at H; exact H
      clear H
      have H := H1
      clear H1
      have HC12 := Aside0.mk H
      clear H
      go_upto_region 13 with (first | (go_at_call 36; (with_reducible refine (regex_reader_next.calls g x1000_2 x1001_2 x1002_2 x1003_2 x1004_2 t147 true t149 t150 t151 t152 t153 w0 _ ?side1 ?side2 ?side3 A10.out).mono ?_); (case side1 => repeat (first | (with_reducible first | exact HI0.out | apply IsS76.alloc | apply IsS76.drewN | apply IsS76.drew | apply IsS76.set_0 | apply IsS76.set_1 | apply IsS76.set_2 | apply IsS76.set_3 | apply IsS76.set_4 | apply IsS76.far (hne := NB0_138.out) | apply IsS76.far (hne := NB0_139.out)) | exact HI0.out)); (case side2 => repeat (first | (with_reducible first | exact HB.out | apply below_alloc | apply pw_below_drewN | apply below_drew1 | refine below_set ?_ (IsS76.ge HI0.out) | refine below_set ?_ GE138.out | refine below_set ?_ GE139.out) | exact HB.out)); (case side3 => exact hT); rintro e w13 ⟨rfl, hi, hb, hk⟩; have n0_ := Aside0.mk (KeepBut.blk hk (g' := gb138) (o := .cells #[.int .u64 0, .int .u64 0, .int .u64 0, .int .u64 0] 49 (0, 0)) qb1 NB138_0.out (by simp)); have n1_ := Aside0.mk (KeepBut.blk hk (g' := gb139) (o := .cells #[.int .u64 x140000_2, .int .u64 x140001_2, .int .u64 x140002_2, .int .u64 x140003_2] 49 (0, 0)) qb3 NB139_0.out (by simp)); have n2_ := Aside0.mk (KeepBut.trans qb0 hk (.inl rfl)); have n3_ := Aside0.mk (hb); have n4_ := Aside0.mk (hi); clear BK138; clear BK139; clear HK; clear HB; clear HI0; have BK138 := n0_; have BK139 := n1_; have HK := n2_; have HB := n3_; have HI0 := n4_; clear n0_ n1_ n2_ n3_ n4_; (try clear hb); (try clear hb2); (try clear hk); (try clear hi); obtain ⟨HGz14, hgz14⟩ := HI0.out; have hcz14_0 := cellS76_0 HGz14; have hcz14_1 := cellS76_1 HGz14; have hcz14_2 := cellS76_2 HGz14; have hcz14_3 := cellS76_3 HGz14; have hcz14_4 := cellS76_4 HGz14; have hfz14_0 := blk_frozen HGz14 0; have hfz14_1 := blk_frozen HGz14 1; have hfz14_2 := blk_frozen HGz14 2; have hfz14_3 := blk_frozen HGz14 3; have hfz14_4 := blk_frozen HGz14 4; clear HGz14 hgz14))
      repeat (go_quiet (first | (go_at_call 36; (with_reducible refine (regex_reader_next.calls g x1000_2 x1001_2 x1002_2 x1003_2 x1004_2 t147 true t149 t150 t151 t152 t153 w0 _ ?side1 ?side2 ?side3 A10.out).mono ?_); (case side1 => repeat (first | (with_reducible first | exact HI0.out | apply IsS76.alloc | apply IsS76.drewN | apply IsS76.drew | apply IsS76.set_0 | apply IsS76.set_1 | apply IsS76.set_2 | apply IsS76.set_3 | apply IsS76.set_4 | apply IsS76.far (hne := NB0_138.out) | apply IsS76.far (hne := NB0_139.out)) | exact HI0.out)); (case side2 => repeat (first | (with_reducible first | exact HB.out | apply below_alloc | apply pw_below_drewN | apply below_drew1 | refine below_set ?_ (IsS76.ge HI0.out) | refine below_set ?_ GE138.out | refine below_set ?_ GE139.out) | exact HB.out)); (case side3 => exact hT); rintro e w13 ⟨rfl, hi, hb, hk⟩; have n0_ := Aside0.mk (KeepBut.blk hk (g' := gb138) (o := .cells #[.int .u64 0, .int .u64 0, .int .u64 0, .int .u64 0] 49 (0, 0)) qb1 NB138_0.out (by simp)); have n1_ := Aside0.mk (KeepBut.blk hk (g' := gb139) (o := .cells #[.int .u64 x140000_2, .int .u64 x140001_2, .int .u64 x140002_2, .int .u64 x140003_2] 49 (0, 0)) qb3 NB139_0.out (by simp)); have n2_ := Aside0.mk (KeepBut.trans qb0 hk (.inl rfl)); have n3_ := Aside0.mk (hb); have n4_ := Aside0.mk (hi); clear BK138; clear BK139; clear HK; clear HB; clear HI0; have BK138 := n0_; have BK139 := n1_; have HK := n2_; have HB := n3_; have HI0 := n4_; clear n0_ n1_ n2_ n3_ n4_; (try clear hb); (try clear hb2); (try clear hk); (try clear hi); obtain ⟨HGz14, hgz14⟩ := HI0.out; have hcz14_0 := cellS76_0 HGz14; have hcz14_1 := cellS76_1 HGz14; have hcz14_2 := cellS76_2 HGz14; have hcz14_3 := cellS76_3 HGz14; have hcz14_4 := cellS76_4 HGz14; have hfz14_0 := blk_frozen HGz14 0; have hfz14_1 := blk_frozen HGz14 1; have hfz14_2 := blk_frozen HGz14 2; have hfz14_3 := blk_frozen HGz14 3; have hfz14_4 := blk_frozen HGz14 4; clear HGz14 hgz14)); go_upto_region 13 with (first | (go_at_call 36; (with_reducible refine (regex_reader_next.calls g x1000_2 x1001_2 x1002_2 x1003_2 x1004_2 t147 true t149 t150 t151 t152 t153 w0 _ ?side1 ?side2 ?side3 A10.out).mono ?_); (case side1 => repeat (first | (with_reducible first | exact HI0.out | apply IsS76.alloc | apply IsS76.drewN | apply IsS76.drew | apply IsS76.set_0 | apply IsS76.set_1 | apply IsS76.set_2 | apply IsS76.set_3 | apply IsS76.set_4 | apply IsS76.far (hne := NB0_138.out) | apply IsS76.far (hne := NB0_139.out)) | exact HI0.out)); (case side2 => repeat (first | (with_reducible first | exact HB.out | apply below_alloc | apply pw_below_drewN | apply below_drew1 | refine below_set ?_ (IsS76.ge HI0.out) | refine below_set ?_ GE138.out | refine below_set ?_ GE139.out) | exact HB.out)); (case side3 => exact hT); rintro e w13 ⟨rfl, hi, hb, hk⟩; have n0_ := Aside0.mk (KeepBut.blk hk (g' := gb138) (o := .cells #[.int .u64 0, .int .u64 0, .int .u64 0, .int .u64 0] 49 (0, 0)) qb1 NB138_0.out (by simp)); have n1_ := Aside0.mk (KeepBut.blk hk (g' := gb139) (o := .cells #[.int .u64 x140000_2, .int .u64 x140001_2, .int .u64 x140002_2, .int .u64 x140003_2] 49 (0, 0)) qb3 NB139_0.out (by simp)); have n2_ := Aside0.mk (KeepBut.trans qb0 hk (.inl rfl)); have n3_ := Aside0.mk (hb); have n4_ := Aside0.mk (hi); clear BK138; clear BK139; clear HK; clear HB; clear HI0; have BK138 := n0_; have BK139 := n1_; have HK := n2_; have HB := n3_; have HI0 := n4_; clear n0_ n1_ n2_ n3_ n4_; (try clear hb); (try clear hb2); (try clear hk); (try clear hi); obtain ⟨HGz14, hgz14⟩ := HI0.out; have hcz14_0 := cellS76_0 HGz14; have hcz14_1 := cellS76_1 HGz14; have hcz14_2 := cellS76_2 HGz14; have hcz14_3 := cellS76_3 HGz14; have hcz14_4 := cellS76_4 HGz14; have hfz14_0 := blk_frozen HGz14 0; have hfz14_1 := blk_frozen HGz14 1; have hfz14_2 := blk_frozen HGz14 2; have hfz14_3 := blk_frozen HGz14 3; have hfz14_4 := blk_frozen HGz14 4; clear HGz14 hgz14)))
      (try simp only [Act.put, List.setIfInBounds_toArray, List.set_cons_zero, List.set_cons_succ])
      go_cut [55] (fun v55 wc => ∃ (kq : Nat) (x55_11 : Bool), v55 = .bool x55_11 ∧ Aside0 (regex_reader_set.j2 kq (wrap64 (s0_1 - 1)) x7_2 t147 x55_11 t149 (wrap64 (t150 + 1)) t151 t152 t153 x140000_2 x140001_2 x140002_2 x140003_2 = some (r1, r2, r3, r4, r5, r6, r7, r8, r9)) ∧ Aside0 (kq ≤ k2) ∧ Aside0 (wc.heap[gb138]? = some (.cells #[.int .u64 0, .int .u64 0, .int .u64 0, .int .u64 0] 49 (0, 0))) ∧ Aside0 (wc.heap[gb139]? = some (.cells #[.int .u64 x140000_2, .int .u64 x140001_2, .int .u64 x140002_2, .int .u64 x140003_2] 49 (0, 0))) ∧ Aside0 (IsS76 w0 wc g t149 (wrap64 (t150 + 1)) t151 t152 t153) ∧ Aside0 (KeepBut w wc g none) ∧ Aside0 (Below w0.heap.size w0 wc))
      case first =>
       have H := HC12.out
       clear HC12
       by_cases c15 : t147 = 93
       ·rw [if_pos c15] at H
        have c15b0 : (t147 == 93) = true := beq_iff_eq.mpr c15
        have c15b1 : (t147 != 93) = false := bne_eq_false_iff_eq.mpr c15
        clear c15
        (first | rw [c15b0] | (simp only [i64_w, i32_w]; rw [c15b0]) | skip)
        have H' := Aside0.mk H
        clear H
        go_wp2
        repeat (go_quiet (fail); try go_wp2)
        go_meet
        case rel => exact ⟨_, (!x8_2), qb8, H', ⟨by have := HJ2.out; have := HK2.out; first | omega | exact Nat.le_refl _⟩, ⟨by (with_reducible repeat (first | refine blk_drewN ?_ _ | refine blk_drew ?_ | refine blk_alloc ?_ _)); refine blk_far ?_ NB138_0.out _; (with_reducible repeat (first | refine blk_drewN ?_ _ | refine blk_drew ?_ | refine blk_alloc ?_ _)); exact BK138.out⟩, ⟨by (with_reducible repeat (first | refine blk_drewN ?_ _ | refine blk_drew ?_ | refine blk_alloc ?_ _)); refine blk_far ?_ NB139_0.out _; (with_reducible repeat (first | refine blk_drewN ?_ _ | refine blk_drew ?_ | refine blk_alloc ?_ _)); exact BK139.out⟩, ⟨by repeat (first | (with_reducible first | exact HI0.out | apply IsS76.alloc | apply IsS76.drewN | apply IsS76.drew | apply IsS76.set_0 | apply IsS76.set_1 | apply IsS76.set_2 | apply IsS76.set_3 | apply IsS76.set_4 | apply IsS76.far (hne := NB0_138.out) | apply IsS76.far (hne := NB0_139.out)) | exact HI0.out)⟩, ⟨by repeat (first | (with_reducible first | exact HK.out | apply KeepBut.set_ | apply keep_drewN | apply keep_drew | apply keep_alloc | refine keep_far ?_ GW138.out _ | refine keep_far ?_ GW139.out _) | exact HK.out)⟩, ⟨by repeat (first | (with_reducible first | exact HB.out | apply below_alloc | apply pw_below_drewN | apply below_drew1 | refine below_set ?_ (IsS76.ge HI0.out) | refine below_set ?_ GE138.out | refine below_set ?_ GE139.out) | exact HB.out)⟩⟩
       ·rw [if_neg c15] at H
        have c15b0 : (t147 == 93) = false := beq_eq_false_iff_ne.mpr c15
        have c15b1 : (t147 != 93) = true := bne_iff_ne.mpr c15
        (first | rw [c15b0] | (simp only [i64_w, i32_w]; rw [c15b0]) | skip)
        have H' := Aside0.mk H
        clear H
        go_wp2
        repeat (go_quiet (fail); try go_wp2)
        go_meet
        case rel => exact ⟨_, (false), qb8, H', ⟨by have := HJ2.out; have := HK2.out; first | omega | exact Nat.le_refl _⟩, ⟨by (with_reducible repeat (first | refine blk_drewN ?_ _ | refine blk_drew ?_ | refine blk_alloc ?_ _)); refine blk_far ?_ NB138_0.out _; (with_reducible repeat (first | refine blk_drewN ?_ _ | refine blk_drew ?_ | refine blk_alloc ?_ _)); exact BK138.out⟩, ⟨by (with_reducible repeat (first | refine blk_drewN ?_ _ | refine blk_drew ?_ | refine blk_alloc ?_ _)); refine blk_far ?_ NB139_0.out _; (with_reducible repeat (first | refine blk_drewN ?_ _ | refine blk_drew ?_ | refine blk_alloc ?_ _)); exact BK139.out⟩, ⟨by repeat (first | (with_reducible first | exact HI0.out | apply IsS76.alloc | apply IsS76.drewN | apply IsS76.drew | apply IsS76.set_0 | apply IsS76.set_1 | apply IsS76.set_2 | apply IsS76.set_3 | apply IsS76.set_4 | apply IsS76.far (hne := NB0_138.out) | apply IsS76.far (hne := NB0_139.out)) | exact HI0.out)⟩, ⟨by repeat (first | (with_reducible first | exact HK.out | apply KeepBut.set_ | apply keep_drewN | apply keep_drew | apply keep_alloc | refine keep_far ?_ GW138.out _ | refine keep_far ?_ GW139.out _) | exact HK.out)⟩, ⟨by repeat (first | (with_reducible first | exact HB.out | apply below_alloc | apply pw_below_drewN | apply below_drew1 | refine below_set ?_ (IsS76.ge HI0.out) | refine below_set ?_ GE138.out | refine below_set ?_ GE139.out) | exact HB.out)⟩⟩
      case rest =>
       clear HC12
       try clear c1
       try clear p2
       try clear c4
       try clear p6
       try clear c8
       try clear c8b0
       try clear c8b1
       try clear c11
       try clear c15
       try clear c15b0
       try clear c15b1
       try clear hcz14_0
       try clear hcz14_1
       try clear hcz14_2
       try clear hcz14_3
       try clear hcz14_4
       try clear hcz5_0
       try clear hcz5_1
       try clear hcz5_2
       try clear hcz5_3
       try clear hcz5_4
       try clear hcz9_0
       try clear hcz9_1
       try clear hcz9_2
       try clear hcz9_3
       try clear hcz9_4
       try clear hfz14_0
       try clear hfz14_1
       try clear hfz14_2
       try clear hfz14_3
       try clear hfz14_4
       try clear hfz5_0
       try clear hfz5_1
       try clear hfz5_2
       try clear hfz5_3
       try clear hfz5_4
       try clear hfz9_0
       try clear hfz9_1
       try clear hfz9_2
       try clear hfz9_3
       try clear hfz9_4
       try clear p2
       try clear p6
       obtain ⟨kq, x55_11, rfl, HA, HJ11, BK138, BK139, HI0, HK, HB⟩ := hcut
       cases kq with
       | zero => exact absurd HA.out (by simp [regex_reader_set.j2])
       | succ kj11 =>
        have H := HA.out
        clear HA
        simp only [regex_reader_set.j2] at H
        by_cases c16 : x55_11 = true
        ·subst c16
         have H1 : (if x7_2 = true then ((regex_Set_Not.f x140000_2 x140001_2 x140002_2 x140003_2).bind fun bt163 => (some (bt163.1, bt163.2.1, bt163.2.2.1, bt163.2.2.2, t149, (wrap64 (t150 + 1)), t151, t152, t153))) else (some (x140000_2, x140001_2, x140002_2, x140003_2, t149, (wrap64 (t150 + 1)), t151, t152, t153))) = some (r1, r2, r3, r4, r5, r6, r7, r8, r9) := by rw [if_pos rfl] at H; exact H
         clear H
         have H := H1
         clear H1
         by_cases c17 : x7_2 = true
         ·subst c17
          have H1 : ((regex_Set_Not.f x140000_2 x140001_2 x140002_2 x140003_2).bind fun bt163 => (some (bt163.1, bt163.2.1, bt163.2.2.1, bt163.2.2.2, t149, (wrap64 (t150 + 1)), t151, t152, t153))) = some (r1, r2, r3, r4, r5, r6, r7, r8, r9) := by rw [if_pos rfl] at H; exact H
          clear H
          have H := H1
          clear H1
          replace H := Option.bind_eq_some_iff.mp H
          obtain ⟨⟨t163, t164, t165, t166⟩, A180, H⟩ := H
          replace H : (some (t163, t164, t165, t166, t149, (wrap64 (t150 + 1)), t151, t152, t153)) = some (r1, r2, r3, r4, r5, r6, r7, r8, r9) := H
          have A18 := Aside0.mk A180
          clear A180
          simp only [Option.some.injEq, Prod.mk.injEq] at H
          obtain ⟨rfl, rfl, rfl, rfl, rfl, rfl, rfl, rfl, rfl⟩ := H
          have hnb19 := NB139_138.out
          have hnc19 := NB138_139.out
          have hnb20 := NB139_0.out
          have hnc20 := NB0_139.out
          have hcz21_0 : wc.cell? ⟨gb139, 0, none⟩ = some (.int .u64 x140000_2) := (blk_cell BK139.out 0).trans rfl
          have hcz21_1 : wc.cell? ⟨gb139, 1, none⟩ = some (.int .u64 x140001_2) := (blk_cell BK139.out 1).trans rfl
          have hcz21_2 : wc.cell? ⟨gb139, 2, none⟩ = some (.int .u64 x140002_2) := (blk_cell BK139.out 2).trans rfl
          have hcz21_3 : wc.cell? ⟨gb139, 3, none⟩ = some (.int .u64 x140003_2) := (blk_cell BK139.out 3).trans rfl
          have hfz21_0 := blk_frozen BK139.out 0
          have hfz21_1 := blk_frozen BK139.out 1
          have hfz21_2 := blk_frozen BK139.out 2
          have hfz21_3 := blk_frozen BK139.out 3
          go_wp2_with (first | (go_at_call 49; (with_reducible refine (regex_Set_Not.calls x140000_2 x140001_2 x140002_2 x140003_2 t163 t164 t165 t166 _ ?side1 A18.out).mono ?_); (case side1 => exact TB.below hT qb2); rintro e w22 ⟨rfl, hb⟩; have n0_ := Aside0.mk (blk_below (g := gb138) (o := .cells #[.int .u64 0, .int .u64 0, .int .u64 0, .int .u64 0] 49 (0, 0)) qb1 hb); have n1_ := Aside0.mk (blk_below (g := gb139) (o := .cells #[.int .u64 x140000_2, .int .u64 x140001_2, .int .u64 x140002_2, .int .u64 x140003_2] 49 (0, 0)) qb3 hb); have n2_ := Aside0.mk (IsS76.below qb4 hb); have n3_ := Aside0.mk (KeepBut.trans qb0 (KeepBut.of_below hb g none) (.inl rfl)); have n4_ := Aside0.mk (below_step qb2 hb); clear BK138; clear BK139; clear HI0; clear HK; clear HB; have BK138 := n0_; have BK139 := n1_; have HI0 := n2_; have HK := n3_; have HB := n4_; clear n0_ n1_ n2_ n3_ n4_; (try clear hb); (try clear hb2); (try clear hk); (try clear hi); have hcz23_0 : w22.cell? ⟨gb139, 0, none⟩ = some (.int .u64 x140000_2) := (blk_cell BK139.out 0).trans rfl; have hcz23_1 : w22.cell? ⟨gb139, 1, none⟩ = some (.int .u64 x140001_2) := (blk_cell BK139.out 1).trans rfl; have hcz23_2 : w22.cell? ⟨gb139, 2, none⟩ = some (.int .u64 x140002_2) := (blk_cell BK139.out 2).trans rfl; have hcz23_3 : w22.cell? ⟨gb139, 3, none⟩ = some (.int .u64 x140003_2) := (blk_cell BK139.out 3).trans rfl; have hfz23_0 := blk_frozen BK139.out 0; have hfz23_1 := blk_frozen BK139.out 1; have hfz23_2 := blk_frozen BK139.out 2; have hfz23_3 := blk_frozen BK139.out 3; have hnb24 := NB138_0.out; have hnc24 := NB0_138.out; have hcz25_0 : w22.cell? ⟨gb138, 0, none⟩ = some (.int .u64 0) := (blk_cell BK138.out 0).trans rfl; have hcz25_1 : w22.cell? ⟨gb138, 1, none⟩ = some (.int .u64 0) := (blk_cell BK138.out 1).trans rfl; have hcz25_2 : w22.cell? ⟨gb138, 2, none⟩ = some (.int .u64 0) := (blk_cell BK138.out 2).trans rfl; have hcz25_3 : w22.cell? ⟨gb138, 3, none⟩ = some (.int .u64 0) := (blk_cell BK138.out 3).trans rfl; have hfz25_0 := blk_frozen BK138.out 0; have hfz25_1 := blk_frozen BK138.out 1; have hfz25_2 := blk_frozen BK138.out 2; have hfz25_3 := blk_frozen BK138.out 3))
          repeat (go_quiet (first | (go_at_call 49; (with_reducible refine (regex_Set_Not.calls x140000_2 x140001_2 x140002_2 x140003_2 t163 t164 t165 t166 _ ?side1 A18.out).mono ?_); (case side1 => exact TB.below hT qb2); rintro e w22 ⟨rfl, hb⟩; have n0_ := Aside0.mk (blk_below (g := gb138) (o := .cells #[.int .u64 0, .int .u64 0, .int .u64 0, .int .u64 0] 49 (0, 0)) qb1 hb); have n1_ := Aside0.mk (blk_below (g := gb139) (o := .cells #[.int .u64 x140000_2, .int .u64 x140001_2, .int .u64 x140002_2, .int .u64 x140003_2] 49 (0, 0)) qb3 hb); have n2_ := Aside0.mk (IsS76.below qb4 hb); have n3_ := Aside0.mk (KeepBut.trans qb0 (KeepBut.of_below hb g none) (.inl rfl)); have n4_ := Aside0.mk (below_step qb2 hb); clear BK138; clear BK139; clear HI0; clear HK; clear HB; have BK138 := n0_; have BK139 := n1_; have HI0 := n2_; have HK := n3_; have HB := n4_; clear n0_ n1_ n2_ n3_ n4_; (try clear hb); (try clear hb2); (try clear hk); (try clear hi); have hcz23_0 : w22.cell? ⟨gb139, 0, none⟩ = some (.int .u64 x140000_2) := (blk_cell BK139.out 0).trans rfl; have hcz23_1 : w22.cell? ⟨gb139, 1, none⟩ = some (.int .u64 x140001_2) := (blk_cell BK139.out 1).trans rfl; have hcz23_2 : w22.cell? ⟨gb139, 2, none⟩ = some (.int .u64 x140002_2) := (blk_cell BK139.out 2).trans rfl; have hcz23_3 : w22.cell? ⟨gb139, 3, none⟩ = some (.int .u64 x140003_2) := (blk_cell BK139.out 3).trans rfl; have hfz23_0 := blk_frozen BK139.out 0; have hfz23_1 := blk_frozen BK139.out 1; have hfz23_2 := blk_frozen BK139.out 2; have hfz23_3 := blk_frozen BK139.out 3; have hnb24 := NB138_0.out; have hnc24 := NB0_138.out; have hcz25_0 : w22.cell? ⟨gb138, 0, none⟩ = some (.int .u64 0) := (blk_cell BK138.out 0).trans rfl; have hcz25_1 : w22.cell? ⟨gb138, 1, none⟩ = some (.int .u64 0) := (blk_cell BK138.out 1).trans rfl; have hcz25_2 : w22.cell? ⟨gb138, 2, none⟩ = some (.int .u64 0) := (blk_cell BK138.out 2).trans rfl; have hcz25_3 : w22.cell? ⟨gb138, 3, none⟩ = some (.int .u64 0) := (blk_cell BK138.out 3).trans rfl; have hfz25_0 := blk_frozen BK138.out 0; have hfz25_1 := blk_frozen BK138.out 1; have hfz25_2 := blk_frozen BK138.out 2; have hfz25_3 := blk_frozen BK138.out 3)); try go_wp2_with (first | (go_at_call 49; (with_reducible refine (regex_Set_Not.calls x140000_2 x140001_2 x140002_2 x140003_2 t163 t164 t165 t166 _ ?side1 A18.out).mono ?_); (case side1 => exact TB.below hT qb2); rintro e w22 ⟨rfl, hb⟩; have n0_ := Aside0.mk (blk_below (g := gb138) (o := .cells #[.int .u64 0, .int .u64 0, .int .u64 0, .int .u64 0] 49 (0, 0)) qb1 hb); have n1_ := Aside0.mk (blk_below (g := gb139) (o := .cells #[.int .u64 x140000_2, .int .u64 x140001_2, .int .u64 x140002_2, .int .u64 x140003_2] 49 (0, 0)) qb3 hb); have n2_ := Aside0.mk (IsS76.below qb4 hb); have n3_ := Aside0.mk (KeepBut.trans qb0 (KeepBut.of_below hb g none) (.inl rfl)); have n4_ := Aside0.mk (below_step qb2 hb); clear BK138; clear BK139; clear HI0; clear HK; clear HB; have BK138 := n0_; have BK139 := n1_; have HI0 := n2_; have HK := n3_; have HB := n4_; clear n0_ n1_ n2_ n3_ n4_; (try clear hb); (try clear hb2); (try clear hk); (try clear hi); have hcz23_0 : w22.cell? ⟨gb139, 0, none⟩ = some (.int .u64 x140000_2) := (blk_cell BK139.out 0).trans rfl; have hcz23_1 : w22.cell? ⟨gb139, 1, none⟩ = some (.int .u64 x140001_2) := (blk_cell BK139.out 1).trans rfl; have hcz23_2 : w22.cell? ⟨gb139, 2, none⟩ = some (.int .u64 x140002_2) := (blk_cell BK139.out 2).trans rfl; have hcz23_3 : w22.cell? ⟨gb139, 3, none⟩ = some (.int .u64 x140003_2) := (blk_cell BK139.out 3).trans rfl; have hfz23_0 := blk_frozen BK139.out 0; have hfz23_1 := blk_frozen BK139.out 1; have hfz23_2 := blk_frozen BK139.out 2; have hfz23_3 := blk_frozen BK139.out 3; have hnb24 := NB138_0.out; have hnc24 := NB0_138.out; have hcz25_0 : w22.cell? ⟨gb138, 0, none⟩ = some (.int .u64 0) := (blk_cell BK138.out 0).trans rfl; have hcz25_1 : w22.cell? ⟨gb138, 1, none⟩ = some (.int .u64 0) := (blk_cell BK138.out 1).trans rfl; have hcz25_2 : w22.cell? ⟨gb138, 2, none⟩ = some (.int .u64 0) := (blk_cell BK138.out 2).trans rfl; have hcz25_3 : w22.cell? ⟨gb138, 3, none⟩ = some (.int .u64 0) := (blk_cell BK138.out 3).trans rfl; have hfz25_0 := blk_frozen BK138.out 0; have hfz25_1 := blk_frozen BK138.out 1; have hfz25_2 := blk_frozen BK138.out 2; have hfz25_3 := blk_frozen BK138.out 3)))
          refine bodyPost_ret (results_cell_row rfl _ _ gb138 49 #[.int .u64 t163, .int .u64 t164, .int .u64 t165, .int .u64 t166] (0, 0) _ rfl (by (with_reducible repeat (first | refine blk_drewN ?_ _ | refine blk_drew ?_ | refine blk_alloc ?_ _)); refine blk_put (cs := #[.int .u64 t163, .int .u64 t164, .int .u64 t165, .int .u64 0]) ?_ 3 _ rfl; (with_reducible repeat (first | refine blk_drewN ?_ _ | refine blk_drew ?_ | refine blk_alloc ?_ _)); refine blk_put (cs := #[.int .u64 t163, .int .u64 t164, .int .u64 0, .int .u64 0]) ?_ 2 _ rfl; (with_reducible repeat (first | refine blk_drewN ?_ _ | refine blk_drew ?_ | refine blk_alloc ?_ _)); refine blk_put (cs := #[.int .u64 t163, .int .u64 0, .int .u64 0, .int .u64 0]) ?_ 1 _ rfl; (with_reducible repeat (first | refine blk_drewN ?_ _ | refine blk_drew ?_ | refine blk_alloc ?_ _)); refine blk_put (cs := #[.int .u64 0, .int .u64 0, .int .u64 0, .int .u64 0]) ?_ 0 _ rfl; (with_reducible repeat (first | refine blk_drewN ?_ _ | refine blk_drew ?_ | refine blk_alloc ?_ _)); refine blk_far ?_ NB138_139.out _; (with_reducible repeat (first | refine blk_drewN ?_ _ | refine blk_drew ?_ | refine blk_alloc ?_ _)); refine blk_far ?_ NB138_139.out _; (with_reducible repeat (first | refine blk_drewN ?_ _ | refine blk_drew ?_ | refine blk_alloc ?_ _)); refine blk_far ?_ NB138_139.out _; (with_reducible repeat (first | refine blk_drewN ?_ _ | refine blk_drew ?_ | refine blk_alloc ?_ _)); refine blk_far ?_ NB138_139.out _; (with_reducible repeat (first | refine blk_drewN ?_ _ | refine blk_drew ?_ | refine blk_alloc ?_ _)); exact BK138.out) Try.underlying49 rfl (by kernel_rfl)) rfl ?_
          exact ⟨by first | rfl | (simp [errW_none, errW_some] <;> rfl) | (simp [errW_none, errW_some] <;> first | rfl | exact isEmpty_bne _) | (simp [*, errW_none, errW_some] <;> rfl), by repeat (first | (with_reducible first | exact HI0.out | apply IsS76.alloc | apply IsS76.drewN | apply IsS76.drew | apply IsS76.set_0 | apply IsS76.set_1 | apply IsS76.set_2 | apply IsS76.set_3 | apply IsS76.set_4 | apply IsS76.far (hne := NB0_138.out) | apply IsS76.far (hne := NB0_139.out)) | exact HI0.out), by repeat (first | (with_reducible first | exact HB.out | apply below_alloc | apply pw_below_drewN | apply below_drew1 | refine below_set ?_ (IsS76.ge HI0.out) | refine below_set ?_ GE138.out | refine below_set ?_ GE139.out) | exact HB.out), by repeat (first | (with_reducible first | exact HK.out | apply KeepBut.set_ | apply keep_drewN | apply keep_drew | apply keep_alloc | refine keep_far ?_ GW138.out _ | refine keep_far ?_ GW139.out _) | exact HK.out)⟩
         ·replace c17 := Bool.eq_false_iff.mpr c17
          subst c17
          have H1 : (some (x140000_2, x140001_2, x140002_2, x140003_2, t149, (wrap64 (t150 + 1)), t151, t152, t153)) = some (r1, r2, r3, r4, r5, r6, r7, r8, r9) := by rw [if_neg (show ¬ (false = true) by decide)] at H; exact H
          clear H
          have H := H1
          clear H1
          simp only [Option.some.injEq, Prod.mk.injEq] at H
          obtain ⟨rfl, rfl, rfl, rfl, rfl, rfl, rfl, rfl, rfl⟩ := H
          have hnb26 := NB139_138.out
          have hnc26 := NB138_139.out
          have hnb27 := NB139_0.out
          have hnc27 := NB0_139.out
          have hcz28_0 : wc.cell? ⟨gb139, 0, none⟩ = some (.int .u64 x140000_2) := (blk_cell BK139.out 0).trans rfl
          have hcz28_1 : wc.cell? ⟨gb139, 1, none⟩ = some (.int .u64 x140001_2) := (blk_cell BK139.out 1).trans rfl
          have hcz28_2 : wc.cell? ⟨gb139, 2, none⟩ = some (.int .u64 x140002_2) := (blk_cell BK139.out 2).trans rfl
          have hcz28_3 : wc.cell? ⟨gb139, 3, none⟩ = some (.int .u64 x140003_2) := (blk_cell BK139.out 3).trans rfl
          have hfz28_0 := blk_frozen BK139.out 0
          have hfz28_1 := blk_frozen BK139.out 1
          have hfz28_2 := blk_frozen BK139.out 2
          have hfz28_3 := blk_frozen BK139.out 3
          have hnb29 := NB138_0.out
          have hnc29 := NB0_138.out
          have hcz30_0 : wc.cell? ⟨gb138, 0, none⟩ = some (.int .u64 0) := (blk_cell BK138.out 0).trans rfl
          have hcz30_1 : wc.cell? ⟨gb138, 1, none⟩ = some (.int .u64 0) := (blk_cell BK138.out 1).trans rfl
          have hcz30_2 : wc.cell? ⟨gb138, 2, none⟩ = some (.int .u64 0) := (blk_cell BK138.out 2).trans rfl
          have hcz30_3 : wc.cell? ⟨gb138, 3, none⟩ = some (.int .u64 0) := (blk_cell BK138.out 3).trans rfl
          have hfz30_0 := blk_frozen BK138.out 0
          have hfz30_1 := blk_frozen BK138.out 1
          have hfz30_2 := blk_frozen BK138.out 2
          have hfz30_3 := blk_frozen BK138.out 3
          go_wp2
          repeat (go_quiet (fail); try go_wp2)
          refine bodyPost_ret (results_cell_row rfl _ _ gb138 49 #[.int .u64 x140000_2, .int .u64 x140001_2, .int .u64 x140002_2, .int .u64 x140003_2] (0, 0) _ rfl qb10 Try.underlying49 rfl (by kernel_rfl)) rfl ?_
          exact ⟨by first | rfl | (simp [errW_none, errW_some] <;> rfl) | (simp [errW_none, errW_some] <;> first | rfl | exact isEmpty_bne _) | (simp [*, errW_none, errW_some] <;> rfl), by repeat (first | (with_reducible first | exact HI0.out | apply IsS76.alloc | apply IsS76.drewN | apply IsS76.drew | apply IsS76.set_0 | apply IsS76.set_1 | apply IsS76.set_2 | apply IsS76.set_3 | apply IsS76.set_4 | apply IsS76.far (hne := NB0_138.out) | apply IsS76.far (hne := NB0_139.out)) | exact HI0.out), by repeat (first | (with_reducible first | exact HB.out | apply below_alloc | apply pw_below_drewN | apply below_drew1 | refine below_set ?_ (IsS76.ge HI0.out) | refine below_set ?_ GE138.out | refine below_set ?_ GE139.out) | exact HB.out), by repeat (first | (with_reducible first | exact HK.out | apply KeepBut.set_ | apply keep_drewN | apply keep_drew | apply keep_alloc | refine keep_far ?_ GW138.out _ | refine keep_far ?_ GW139.out _) | exact HK.out)⟩
        ·replace c16 := Bool.eq_false_iff.mpr c16
         subst c16
         have H1 : (if t147 = 92 then ((regex_reader_escape.f kj11 t149 (wrap64 (t150 + 1)) t151 t152 t153).bind fun bt167 => (regex_reader_set.j3 kj11 (wrap64 (s0_1 - 1)) x7_2 bt167.1 bt167.2.1 bt167.2.2.1 bt167.2.2.2.1 bt167.2.2.2.2.1 bt167.2.2.2.2.2 x140000_2 x140001_2 x140002_2 x140003_2)) else (regex_reader_set.j3 kj11 (wrap64 (s0_1 - 1)) x7_2 t147 t149 (wrap64 (t150 + 1)) t151 t152 t153 x140000_2 x140001_2 x140002_2 x140003_2)) = some (r1, r2, r3, r4, r5, r6, r7, r8, r9) := by rw [if_neg (show ¬ (false = true) by decide)] at H; exact H
         clear H
         have H := H1
         clear H1
         have HC31 := Aside0.mk H
         clear H
         go_upto_if 57 with (fail)
         repeat (go_quiet (fail); go_upto_if 57 with (fail))
         go_cut [9] (fun v9 wc => ∃ (kq : Nat) (x9_30 : Int) (x1000_30 : ByteArray) (x1001_30 : Int) (x1002_30 : Int) (x1003_30 : Int) (x1004_30 : Int), v9 = .int .u8 x9_30 ∧ Aside0 (regex_reader_set.j3 kq (wrap64 (s0_1 - 1)) x7_2 x9_30 x1000_30 x1001_30 x1002_30 x1003_30 x1004_30 x140000_2 x140001_2 x140002_2 x140003_2 = some (r1, r2, r3, r4, r5, r6, r7, r8, r9)) ∧ Aside0 (kq ≤ kj11) ∧ Aside0 (wc.heap[gb138]? = some (.cells #[.int .u64 0, .int .u64 0, .int .u64 0, .int .u64 0] 49 (0, 0))) ∧ Aside0 (wc.heap[gb139]? = some (.cells #[.int .u64 x140000_2, .int .u64 x140001_2, .int .u64 x140002_2, .int .u64 x140003_2] 49 (0, 0))) ∧ Aside0 (IsS76 w0 wc g x1000_30 x1001_30 x1002_30 x1003_30 x1004_30) ∧ Aside0 (KeepBut w wc g none) ∧ Aside0 (Below w0.heap.size w0 wc))
         case first =>
          have H := HC31.out
          clear HC31
          by_cases c32 : t147 = 92
          ·rw [if_pos c32] at H
           have c32b0 : (t147 == 92) = true := beq_iff_eq.mpr c32
           have c32b1 : (t147 != 92) = false := bne_eq_false_iff_eq.mpr c32
           clear c32
           (first | rw [c32b0] | (simp only [i64_w, i32_w]; rw [c32b0]) | skip)
           replace H := Option.bind_eq_some_iff.mp H
           obtain ⟨⟨t167, t168, t169, t170, t171, t172⟩, A330, H⟩ := H
           replace H : (regex_reader_set.j3 kj11 (wrap64 (s0_1 - 1)) x7_2 t167 t168 t169 t170 t171 t172 x140000_2 x140001_2 x140002_2 x140003_2) = some (r1, r2, r3, r4, r5, r6, r7, r8, r9) := H
           have A33 := Aside0.mk A330
           clear A330
           have H' := Aside0.mk H
           clear H
           go_wp2_with (first | (go_at_call 50; (with_reducible refine (regex_reader_escape.calls kj11 g t149 (wrap64 (t150 + 1)) t151 t152 t153 t167 t168 t169 t170 t171 t172 w0 _ ?side1 ?side2 ?side3 A33.out).mono ?_); (case side1 => repeat (first | (with_reducible first | exact HI0.out | apply IsS76.alloc | apply IsS76.drewN | apply IsS76.drew | apply IsS76.set_0 | apply IsS76.set_1 | apply IsS76.set_2 | apply IsS76.set_3 | apply IsS76.set_4 | apply IsS76.far (hne := NB0_138.out) | apply IsS76.far (hne := NB0_139.out)) | exact HI0.out)); (case side2 => repeat (first | (with_reducible first | exact HB.out | apply below_alloc | apply pw_below_drewN | apply below_drew1 | refine below_set ?_ (IsS76.ge HI0.out) | refine below_set ?_ GE138.out | refine below_set ?_ GE139.out) | exact HB.out)); (case side3 => exact hT); rintro e w34 ⟨rfl, hi, hb, hk⟩; have n0_ := Aside0.mk (KeepBut.blk hk (g' := gb138) (o := .cells #[.int .u64 0, .int .u64 0, .int .u64 0, .int .u64 0] 49 (0, 0)) qb1 NB138_0.out (by simp)); have n1_ := Aside0.mk (KeepBut.blk hk (g' := gb139) (o := .cells #[.int .u64 x140000_2, .int .u64 x140001_2, .int .u64 x140002_2, .int .u64 x140003_2] 49 (0, 0)) qb3 NB139_0.out (by simp)); have n2_ := Aside0.mk (KeepBut.trans qb0 hk (.inl rfl)); have n3_ := Aside0.mk (hb); have n4_ := Aside0.mk (hi); clear BK138; clear BK139; clear HK; clear HB; clear HI0; have BK138 := n0_; have BK139 := n1_; have HK := n2_; have HB := n3_; have HI0 := n4_; clear n0_ n1_ n2_ n3_ n4_; (try clear hb); (try clear hb2); (try clear hk); (try clear hi)))
           repeat (go_quiet (first | (go_at_call 50; (with_reducible refine (regex_reader_escape.calls kj11 g t149 (wrap64 (t150 + 1)) t151 t152 t153 t167 t168 t169 t170 t171 t172 w0 _ ?side1 ?side2 ?side3 A33.out).mono ?_); (case side1 => repeat (first | (with_reducible first | exact HI0.out | apply IsS76.alloc | apply IsS76.drewN | apply IsS76.drew | apply IsS76.set_0 | apply IsS76.set_1 | apply IsS76.set_2 | apply IsS76.set_3 | apply IsS76.set_4 | apply IsS76.far (hne := NB0_138.out) | apply IsS76.far (hne := NB0_139.out)) | exact HI0.out)); (case side2 => repeat (first | (with_reducible first | exact HB.out | apply below_alloc | apply pw_below_drewN | apply below_drew1 | refine below_set ?_ (IsS76.ge HI0.out) | refine below_set ?_ GE138.out | refine below_set ?_ GE139.out) | exact HB.out)); (case side3 => exact hT); rintro e w34 ⟨rfl, hi, hb, hk⟩; have n0_ := Aside0.mk (KeepBut.blk hk (g' := gb138) (o := .cells #[.int .u64 0, .int .u64 0, .int .u64 0, .int .u64 0] 49 (0, 0)) qb1 NB138_0.out (by simp)); have n1_ := Aside0.mk (KeepBut.blk hk (g' := gb139) (o := .cells #[.int .u64 x140000_2, .int .u64 x140001_2, .int .u64 x140002_2, .int .u64 x140003_2] 49 (0, 0)) qb3 NB139_0.out (by simp)); have n2_ := Aside0.mk (KeepBut.trans qb0 hk (.inl rfl)); have n3_ := Aside0.mk (hb); have n4_ := Aside0.mk (hi); clear BK138; clear BK139; clear HK; clear HB; clear HI0; have BK138 := n0_; have BK139 := n1_; have HK := n2_; have HB := n3_; have HI0 := n4_; clear n0_ n1_ n2_ n3_ n4_; (try clear hb); (try clear hb2); (try clear hk); (try clear hi))); try go_wp2_with (first | (go_at_call 50; (with_reducible refine (regex_reader_escape.calls kj11 g t149 (wrap64 (t150 + 1)) t151 t152 t153 t167 t168 t169 t170 t171 t172 w0 _ ?side1 ?side2 ?side3 A33.out).mono ?_); (case side1 => repeat (first | (with_reducible first | exact HI0.out | apply IsS76.alloc | apply IsS76.drewN | apply IsS76.drew | apply IsS76.set_0 | apply IsS76.set_1 | apply IsS76.set_2 | apply IsS76.set_3 | apply IsS76.set_4 | apply IsS76.far (hne := NB0_138.out) | apply IsS76.far (hne := NB0_139.out)) | exact HI0.out)); (case side2 => repeat (first | (with_reducible first | exact HB.out | apply below_alloc | apply pw_below_drewN | apply below_drew1 | refine below_set ?_ (IsS76.ge HI0.out) | refine below_set ?_ GE138.out | refine below_set ?_ GE139.out) | exact HB.out)); (case side3 => exact hT); rintro e w34 ⟨rfl, hi, hb, hk⟩; have n0_ := Aside0.mk (KeepBut.blk hk (g' := gb138) (o := .cells #[.int .u64 0, .int .u64 0, .int .u64 0, .int .u64 0] 49 (0, 0)) qb1 NB138_0.out (by simp)); have n1_ := Aside0.mk (KeepBut.blk hk (g' := gb139) (o := .cells #[.int .u64 x140000_2, .int .u64 x140001_2, .int .u64 x140002_2, .int .u64 x140003_2] 49 (0, 0)) qb3 NB139_0.out (by simp)); have n2_ := Aside0.mk (KeepBut.trans qb0 hk (.inl rfl)); have n3_ := Aside0.mk (hb); have n4_ := Aside0.mk (hi); clear BK138; clear BK139; clear HK; clear HB; clear HI0; have BK138 := n0_; have BK139 := n1_; have HK := n2_; have HB := n3_; have HI0 := n4_; clear n0_ n1_ n2_ n3_ n4_; (try clear hb); (try clear hb2); (try clear hk); (try clear hi))))
           go_meet
           case rel => exact ⟨_, (t167), (t168), (t169), (t170), (t171), (t172), qb8, H', ⟨by have := HJ2.out; have := HK2.out; have := HJ11.out; first | omega | exact Nat.le_refl _⟩, ⟨by (with_reducible repeat (first | refine blk_drewN ?_ _ | refine blk_drew ?_ | refine blk_alloc ?_ _)); exact BK138.out⟩, ⟨by (with_reducible repeat (first | refine blk_drewN ?_ _ | refine blk_drew ?_ | refine blk_alloc ?_ _)); exact BK139.out⟩, ⟨by repeat (first | (with_reducible first | exact HI0.out | apply IsS76.alloc | apply IsS76.drewN | apply IsS76.drew | apply IsS76.set_0 | apply IsS76.set_1 | apply IsS76.set_2 | apply IsS76.set_3 | apply IsS76.set_4 | apply IsS76.far (hne := NB0_138.out) | apply IsS76.far (hne := NB0_139.out)) | exact HI0.out)⟩, ⟨by repeat (first | (with_reducible first | exact HK.out | apply KeepBut.set_ | apply keep_drewN | apply keep_drew | apply keep_alloc | refine keep_far ?_ GW138.out _ | refine keep_far ?_ GW139.out _) | exact HK.out)⟩, ⟨by repeat (first | (with_reducible first | exact HB.out | apply below_alloc | apply pw_below_drewN | apply below_drew1 | refine below_set ?_ (IsS76.ge HI0.out) | refine below_set ?_ GE138.out | refine below_set ?_ GE139.out) | exact HB.out)⟩⟩
          ·rw [if_neg c32] at H
           have c32b0 : (t147 == 92) = false := beq_eq_false_iff_ne.mpr c32
           have c32b1 : (t147 != 92) = true := bne_iff_ne.mpr c32
           (first | rw [c32b0] | (simp only [i64_w, i32_w]; rw [c32b0]) | skip)
           have H' := Aside0.mk H
           clear H
           go_wp2
           repeat (go_quiet (fail); try go_wp2)
           go_meet
           case rel => exact ⟨_, (t147), (t149), ((wrap64 (t150 + 1))), (t151), (t152), (t153), qb8, H', ⟨by have := HJ2.out; have := HK2.out; have := HJ11.out; first | omega | exact Nat.le_refl _⟩, ⟨by (with_reducible repeat (first | refine blk_drewN ?_ _ | refine blk_drew ?_ | refine blk_alloc ?_ _)); exact BK138.out⟩, ⟨by (with_reducible repeat (first | refine blk_drewN ?_ _ | refine blk_drew ?_ | refine blk_alloc ?_ _)); exact BK139.out⟩, ⟨by repeat (first | (with_reducible first | exact HI0.out | apply IsS76.alloc | apply IsS76.drewN | apply IsS76.drew | apply IsS76.set_0 | apply IsS76.set_1 | apply IsS76.set_2 | apply IsS76.set_3 | apply IsS76.set_4 | apply IsS76.far (hne := NB0_138.out) | apply IsS76.far (hne := NB0_139.out)) | exact HI0.out)⟩, ⟨by repeat (first | (with_reducible first | exact HK.out | apply KeepBut.set_ | apply keep_drewN | apply keep_drew | apply keep_alloc | refine keep_far ?_ GW138.out _ | refine keep_far ?_ GW139.out _) | exact HK.out)⟩, ⟨by repeat (first | (with_reducible first | exact HB.out | apply below_alloc | apply pw_below_drewN | apply below_drew1 | refine below_set ?_ (IsS76.ge HI0.out) | refine below_set ?_ GE138.out | refine below_set ?_ GE139.out) | exact HB.out)⟩⟩
         case rest =>
          clear HC31
          try clear c1
          try clear c2
          try clear p2
          try clear c3
          try clear c4
          try clear p6
          try clear c8
          try clear c8b0
          try clear c8b1
          try clear c11
          try clear c15
          try clear c15b0
          try clear c15b1
          try clear c16
          try clear c17
          try clear c19
          try clear c20
          try clear c24
          try clear c26
          try clear c27
          try clear c29
          try clear c32
          try clear c32b0
          try clear c32b1
          try clear hcz14_0
          try clear hcz14_1
          try clear hcz14_2
          try clear hcz14_3
          try clear hcz14_4
          try clear hcz21_0
          try clear hcz21_1
          try clear hcz21_2
          try clear hcz21_3
          try clear hcz23_0
          try clear hcz23_1
          try clear hcz23_2
          try clear hcz23_3
          try clear hcz25_0
          try clear hcz25_1
          try clear hcz25_2
          try clear hcz25_3
          try clear hcz28_0
          try clear hcz28_1
          try clear hcz28_2
          try clear hcz28_3
          try clear hcz30_0
          try clear hcz30_1
          try clear hcz30_2
          try clear hcz30_3
          try clear hcz5_0
          try clear hcz5_1
          try clear hcz5_2
          try clear hcz5_3
          try clear hcz5_4
          try clear hcz9_0
          try clear hcz9_1
          try clear hcz9_2
          try clear hcz9_3
          try clear hcz9_4
          try clear hfz14_0
          try clear hfz14_1
          try clear hfz14_2
          try clear hfz14_3
          try clear hfz14_4
          try clear hfz21_0
          try clear hfz21_1
          try clear hfz21_2
          try clear hfz21_3
          try clear hfz23_0
          try clear hfz23_1
          try clear hfz23_2
          try clear hfz23_3
          try clear hfz25_0
          try clear hfz25_1
          try clear hfz25_2
          try clear hfz25_3
          try clear hfz28_0
          try clear hfz28_1
          try clear hfz28_2
          try clear hfz28_3
          try clear hfz30_0
          try clear hfz30_1
          try clear hfz30_2
          try clear hfz30_3
          try clear hfz5_0
          try clear hfz5_1
          try clear hfz5_2
          try clear hfz5_3
          try clear hfz5_4
          try clear hfz9_0
          try clear hfz9_1
          try clear hfz9_2
          try clear hfz9_3
          try clear hfz9_4
          try clear p2
          try clear p6
          obtain ⟨kq, x9_30, x1000_30, x1001_30, x1002_30, x1003_30, x1004_30, rfl, HA, HJ30, BK138, BK139, HI0, HK, HB⟩ := hcut
          cases kq with
          | zero => exact absurd HA.out (by simp [regex_reader_set.j3])
          | succ kj30 =>
           have H := HA.out
           clear HA
           simp only [regex_reader_set.j3] at H
           have HC35 := Aside0.mk H
           clear H
           go_upto_region 17 with (fail)
           repeat (go_quiet (fail); go_upto_region 17 with (fail))
           go_cut [103] (fun v103 wc => ∃ (kq : Nat) (x103_34 : Bool), v103 = .bool x103_34 ∧ Aside0 (regex_reader_set.j4 kq (wrap64 (s0_1 - 1)) x7_2 x9_30 x9_30 x103_34 x1000_30 x1001_30 x1002_30 x1003_30 x1004_30 x140000_2 x140001_2 x140002_2 x140003_2 = some (r1, r2, r3, r4, r5, r6, r7, r8, r9)) ∧ Aside0 (kq ≤ kj30) ∧ Aside0 (wc.heap[gb138]? = some (.cells #[.int .u64 0, .int .u64 0, .int .u64 0, .int .u64 0] 49 (0, 0))) ∧ Aside0 (wc.heap[gb139]? = some (.cells #[.int .u64 x140000_2, .int .u64 x140001_2, .int .u64 x140002_2, .int .u64 x140003_2] 49 (0, 0))) ∧ Aside0 (IsS76 w0 wc g x1000_30 x1001_30 x1002_30 x1003_30 x1004_30) ∧ Aside0 (KeepBut w wc g none) ∧ Aside0 (Below w0.heap.size w0 wc))
           case first =>
            have H := HC35.out
            clear HC35
            by_cases c36 : (wrap64 (x1001_30 + 1)) < (x1000_30.size : Int)
            ·rw [if_pos c36] at H
             have c36b0 : decide ((wrap64 (x1001_30 + 1)) < (x1000_30.size : Int)) = true := decide_eq_true c36
             clear c36
             (first | rw [c36b0] | (simp only [i64_w, i32_w]; rw [c36b0]) | skip)
             by_cases c37 : 0 ≤ x1001_30
             ·rw [if_pos c37] at H
              have c37b0 : decide (0 ≤ x1001_30) = true := decide_eq_true c37
              clear c37
              by_cases c38 : x1001_30 < (x1000_30.size : Int)
              ·rw [if_pos c38] at H
               have c38b0 : decide (x1001_30 < (x1000_30.size : Int)) = true := decide_eq_true c38
               clear c38
               by_cases c40 : (bt x1000_30 x1001_30) = 45
               ·rw [if_pos c40] at H
                have c40b0 : ((bt x1000_30 x1001_30) == 45) = true := beq_iff_eq.mpr c40
                have c40b1 : ((bt x1000_30 x1001_30) != 45) = false := bne_eq_false_iff_eq.mpr c40
                clear c40
                obtain ⟨ji41, hji41⟩ : ∃ j_ : Int, (wrap64 (x1001_30 + 1)) = j_ := ⟨_, rfl⟩
                replace H : (if 0 ≤ (ji41) then (if (bt x1000_30 (ji41)) = 93 then (regex_reader_set.j4 kj30 (wrap64 (s0_1 - 1)) x7_2 x9_30 x9_30 false x1000_30 x1001_30 x1002_30 x1003_30 x1004_30 x140000_2 x140001_2 x140002_2 x140003_2) else (regex_reader_set.j4 kj30 (wrap64 (s0_1 - 1)) x7_2 x9_30 x9_30 (x1003_30 == 0) x1000_30 x1001_30 x1002_30 x1003_30 x1004_30 x140000_2 x140001_2 x140002_2 x140003_2)) else (none)) = some (r1, r2, r3, r4, r5, r6, r7, r8, r9) := by first | (rw [hji41] at H; exact H) | (simp only [hji41] at H ⊢; exact H)
                (try rw [hji41] at c36b0)
                have hji41w : (IntKind.i64.wrap (x1001_30 + 1)) = ji41 := (i64_w _).trans hji41
                by_cases c42 : 0 ≤ (ji41)
                ·rw [if_pos c42] at H
                 have c42b0 : decide (0 ≤ (ji41)) = true := decide_eq_true c42
                 clear c42
                 by_cases c44 : (bt x1000_30 (ji41)) = 93
                 ·rw [if_pos c44] at H
                  have c44b0 : ((bt x1000_30 (ji41)) == 93) = true := beq_iff_eq.mpr c44
                  have c44b1 : ((bt x1000_30 (ji41)) != 93) = false := bne_eq_false_iff_eq.mpr c44
                  clear c44
                  have H' := Aside0.mk H
                  clear H
                  obtain ⟨HGz45, hgz45⟩ := HI0.out
                  have hcz45_0 := cellS76_0 HGz45
                  have hcz45_1 := cellS76_1 HGz45
                  have hcz45_2 := cellS76_2 HGz45
                  have hcz45_3 := cellS76_3 HGz45
                  have hcz45_4 := cellS76_4 HGz45
                  have hfz45_0 := blk_frozen HGz45 0
                  have hfz45_1 := blk_frozen HGz45 1
                  have hfz45_2 := blk_frozen HGz45 2
                  have hfz45_3 := blk_frozen HGz45 3
                  have hfz45_4 := blk_frozen HGz45 4
                  clear HGz45 hgz45
                  have p39 : 0 ≤ (x1001_30 : Int) := of_decide_eq_true qb11
                  have qb39 : x1001_30 < (x1000_30.size : Int) := of_decide_eq_true qb11
                  have hx39 := bt_at x1000_30 x1001_30
                  replace p39 := eq_true p39
                  replace qb39 := eq_true qb39
                  have p43 : 0 ≤ ((ji41) : Int) := of_decide_eq_true qb11
                  have qb43 : (ji41) < (x1000_30.size : Int) := of_decide_eq_true qb11
                  have hx43 := bt_at x1000_30 (ji41)
                  replace p43 := eq_true p43
                  replace qb43 := eq_true qb43
                  go_wp2
                  repeat (go_quiet (fail); try go_wp2)
                  go_meet
                  case rel => exact ⟨_, (false), qb8, H', ⟨by have := HJ2.out; have := HK2.out; have := HJ11.out; have := HJ30.out; first | omega | exact Nat.le_refl _⟩, ⟨by (with_reducible repeat (first | refine blk_drewN ?_ _ | refine blk_drew ?_ | refine blk_alloc ?_ _)); exact BK138.out⟩, ⟨by (with_reducible repeat (first | refine blk_drewN ?_ _ | refine blk_drew ?_ | refine blk_alloc ?_ _)); exact BK139.out⟩, ⟨by repeat (first | (with_reducible first | exact HI0.out | apply IsS76.alloc | apply IsS76.drewN | apply IsS76.drew | apply IsS76.set_0 | apply IsS76.set_1 | apply IsS76.set_2 | apply IsS76.set_3 | apply IsS76.set_4 | apply IsS76.far (hne := NB0_138.out) | apply IsS76.far (hne := NB0_139.out)) | exact HI0.out)⟩, ⟨by repeat (first | (with_reducible first | exact HK.out | apply KeepBut.set_ | apply keep_drewN | apply keep_drew | apply keep_alloc | refine keep_far ?_ GW138.out _ | refine keep_far ?_ GW139.out _) | exact HK.out)⟩, ⟨by repeat (first | (with_reducible first | exact HB.out | apply below_alloc | apply pw_below_drewN | apply below_drew1 | refine below_set ?_ (IsS76.ge HI0.out) | refine below_set ?_ GE138.out | refine below_set ?_ GE139.out) | exact HB.out)⟩⟩
                 ·rw [if_neg c44] at H
                  have c44b0 : ((bt x1000_30 (ji41)) == 93) = false := beq_eq_false_iff_ne.mpr c44
                  have c44b1 : ((bt x1000_30 (ji41)) != 93) = true := bne_iff_ne.mpr c44
                  have H' := Aside0.mk H
                  clear H
                  obtain ⟨HGz46, hgz46⟩ := HI0.out
                  have hcz46_0 := cellS76_0 HGz46
                  have hcz46_1 := cellS76_1 HGz46
                  have hcz46_2 := cellS76_2 HGz46
                  have hcz46_3 := cellS76_3 HGz46
                  have hcz46_4 := cellS76_4 HGz46
                  have hfz46_0 := blk_frozen HGz46 0
                  have hfz46_1 := blk_frozen HGz46 1
                  have hfz46_2 := blk_frozen HGz46 2
                  have hfz46_3 := blk_frozen HGz46 3
                  have hfz46_4 := blk_frozen HGz46 4
                  clear HGz46 hgz46
                  have p39 : 0 ≤ (x1001_30 : Int) := of_decide_eq_true qb11
                  have qb39 : x1001_30 < (x1000_30.size : Int) := of_decide_eq_true qb11
                  have hx39 := bt_at x1000_30 x1001_30
                  replace p39 := eq_true p39
                  replace qb39 := eq_true qb39
                  have p43 : 0 ≤ ((ji41) : Int) := of_decide_eq_true qb11
                  have qb43 : (ji41) < (x1000_30.size : Int) := of_decide_eq_true qb11
                  have hx43 := bt_at x1000_30 (ji41)
                  replace p43 := eq_true p43
                  replace qb43 := eq_true qb43
                  go_wp2
                  repeat (go_quiet (fail); try go_wp2)
                  go_meet
                  case rel => exact ⟨_, ((x1003_30 == 0)), qb8, H', ⟨by have := HJ2.out; have := HK2.out; have := HJ11.out; have := HJ30.out; first | omega | exact Nat.le_refl _⟩, ⟨by (with_reducible repeat (first | refine blk_drewN ?_ _ | refine blk_drew ?_ | refine blk_alloc ?_ _)); exact BK138.out⟩, ⟨by (with_reducible repeat (first | refine blk_drewN ?_ _ | refine blk_drew ?_ | refine blk_alloc ?_ _)); exact BK139.out⟩, ⟨by repeat (first | (with_reducible first | exact HI0.out | apply IsS76.alloc | apply IsS76.drewN | apply IsS76.drew | apply IsS76.set_0 | apply IsS76.set_1 | apply IsS76.set_2 | apply IsS76.set_3 | apply IsS76.set_4 | apply IsS76.far (hne := NB0_138.out) | apply IsS76.far (hne := NB0_139.out)) | exact HI0.out)⟩, ⟨by repeat (first | (with_reducible first | exact HK.out | apply KeepBut.set_ | apply keep_drewN | apply keep_drew | apply keep_alloc | refine keep_far ?_ GW138.out _ | refine keep_far ?_ GW139.out _) | exact HK.out)⟩, ⟨by repeat (first | (with_reducible first | exact HB.out | apply below_alloc | apply pw_below_drewN | apply below_drew1 | refine below_set ?_ (IsS76.ge HI0.out) | refine below_set ?_ GE138.out | refine below_set ?_ GE139.out) | exact HB.out)⟩⟩
                ·rw [if_neg c42] at H
                 exact absurd H (by simp)
               ·rw [if_neg c40] at H
                have c40b0 : ((bt x1000_30 x1001_30) == 45) = false := beq_eq_false_iff_ne.mpr c40
                have c40b1 : ((bt x1000_30 x1001_30) != 45) = true := bne_iff_ne.mpr c40
                have H' := Aside0.mk H
                clear H
                obtain ⟨HGz47, hgz47⟩ := HI0.out
                have hcz47_0 := cellS76_0 HGz47
                have hcz47_1 := cellS76_1 HGz47
                have hcz47_2 := cellS76_2 HGz47
                have hcz47_3 := cellS76_3 HGz47
                have hcz47_4 := cellS76_4 HGz47
                have hfz47_0 := blk_frozen HGz47 0
                have hfz47_1 := blk_frozen HGz47 1
                have hfz47_2 := blk_frozen HGz47 2
                have hfz47_3 := blk_frozen HGz47 3
                have hfz47_4 := blk_frozen HGz47 4
                clear HGz47 hgz47
                have p39 : 0 ≤ (x1001_30 : Int) := of_decide_eq_true qb11
                have qb39 : x1001_30 < (x1000_30.size : Int) := of_decide_eq_true qb11
                have hx39 := bt_at x1000_30 x1001_30
                replace p39 := eq_true p39
                replace qb39 := eq_true qb39
                go_wp2
                repeat (go_quiet (fail); try go_wp2)
                go_meet
                case rel => exact ⟨_, (false), qb8, H', ⟨by have := HJ2.out; have := HK2.out; have := HJ11.out; have := HJ30.out; first | omega | exact Nat.le_refl _⟩, ⟨by (with_reducible repeat (first | refine blk_drewN ?_ _ | refine blk_drew ?_ | refine blk_alloc ?_ _)); exact BK138.out⟩, ⟨by (with_reducible repeat (first | refine blk_drewN ?_ _ | refine blk_drew ?_ | refine blk_alloc ?_ _)); exact BK139.out⟩, ⟨by repeat (first | (with_reducible first | exact HI0.out | apply IsS76.alloc | apply IsS76.drewN | apply IsS76.drew | apply IsS76.set_0 | apply IsS76.set_1 | apply IsS76.set_2 | apply IsS76.set_3 | apply IsS76.set_4 | apply IsS76.far (hne := NB0_138.out) | apply IsS76.far (hne := NB0_139.out)) | exact HI0.out)⟩, ⟨by repeat (first | (with_reducible first | exact HK.out | apply KeepBut.set_ | apply keep_drewN | apply keep_drew | apply keep_alloc | refine keep_far ?_ GW138.out _ | refine keep_far ?_ GW139.out _) | exact HK.out)⟩, ⟨by repeat (first | (with_reducible first | exact HB.out | apply below_alloc | apply pw_below_drewN | apply below_drew1 | refine below_set ?_ (IsS76.ge HI0.out) | refine below_set ?_ GE138.out | refine below_set ?_ GE139.out) | exact HB.out)⟩⟩
              ·rw [if_neg c38] at H
               exact absurd H (by simp)
             ·rw [if_neg c37] at H
              exact absurd H (by simp)
            ·rw [if_neg c36] at H
             have c36b0 : decide ((wrap64 (x1001_30 + 1)) < (x1000_30.size : Int)) = false := decide_eq_false c36
             clear c36
             (first | rw [c36b0] | (simp only [i64_w, i32_w]; rw [c36b0]) | skip)
             have H' := Aside0.mk H
             clear H
             obtain ⟨HGz48, hgz48⟩ := HI0.out
             have hcz48_0 := cellS76_0 HGz48
             have hcz48_1 := cellS76_1 HGz48
             have hcz48_2 := cellS76_2 HGz48
             have hcz48_3 := cellS76_3 HGz48
             have hcz48_4 := cellS76_4 HGz48
             have hfz48_0 := blk_frozen HGz48 0
             have hfz48_1 := blk_frozen HGz48 1
             have hfz48_2 := blk_frozen HGz48 2
             have hfz48_3 := blk_frozen HGz48 3
             have hfz48_4 := blk_frozen HGz48 4
             clear HGz48 hgz48
             go_wp2
             repeat (go_quiet (fail); try go_wp2)
             go_meet
             case rel => exact ⟨_, (false), qb8, H', ⟨by have := HJ2.out; have := HK2.out; have := HJ11.out; have := HJ30.out; first | omega | exact Nat.le_refl _⟩, ⟨by (with_reducible repeat (first | refine blk_drewN ?_ _ | refine blk_drew ?_ | refine blk_alloc ?_ _)); exact BK138.out⟩, ⟨by (with_reducible repeat (first | refine blk_drewN ?_ _ | refine blk_drew ?_ | refine blk_alloc ?_ _)); exact BK139.out⟩, ⟨by repeat (first | (with_reducible first | exact HI0.out | apply IsS76.alloc | apply IsS76.drewN | apply IsS76.drew | apply IsS76.set_0 | apply IsS76.set_1 | apply IsS76.set_2 | apply IsS76.set_3 | apply IsS76.set_4 | apply IsS76.far (hne := NB0_138.out) | apply IsS76.far (hne := NB0_139.out)) | exact HI0.out)⟩, ⟨by repeat (first | (with_reducible first | exact HK.out | apply KeepBut.set_ | apply keep_drewN | apply keep_drew | apply keep_alloc | refine keep_far ?_ GW138.out _ | refine keep_far ?_ GW139.out _) | exact HK.out)⟩, ⟨by repeat (first | (with_reducible first | exact HB.out | apply below_alloc | apply pw_below_drewN | apply below_drew1 | refine below_set ?_ (IsS76.ge HI0.out) | refine below_set ?_ GE138.out | refine below_set ?_ GE139.out) | exact HB.out)⟩⟩
           case rest =>
            clear HC35
            try clear c1
            try clear c2
            try clear p2
            try clear c3
            try clear p3
            try clear qb3
            try clear hx3
            try clear c4
            try clear p4
            try clear qb4
            try clear hx4
            try clear p6
            try clear c8
            try clear c8b0
            try clear c8b1
            try clear c11
            try clear c15
            try clear c15b0
            try clear c15b1
            try clear c16
            try clear c17
            try clear c19
            try clear c20
            try clear c24
            try clear c26
            try clear c27
            try clear c29
            try clear c32
            try clear c32b0
            try clear c32b1
            try clear c36
            try clear c36b0
            try clear c37
            try clear c37b0
            try clear c38
            try clear c38b0
            try clear p39
            try clear qb39
            try clear hx39
            try clear c40
            try clear c40b0
            try clear c40b1
            try clear c42
            try clear c42b0
            try clear p43
            try clear qb43
            try clear hx43
            try clear c44
            try clear c44b0
            try clear c44b1
            try clear c48
            try clear hcz14_0
            try clear hcz14_1
            try clear hcz14_2
            try clear hcz14_3
            try clear hcz14_4
            try clear hcz21_0
            try clear hcz21_1
            try clear hcz21_2
            try clear hcz21_3
            try clear hcz23_0
            try clear hcz23_1
            try clear hcz23_2
            try clear hcz23_3
            try clear hcz25_0
            try clear hcz25_1
            try clear hcz25_2
            try clear hcz25_3
            try clear hcz28_0
            try clear hcz28_1
            try clear hcz28_2
            try clear hcz28_3
            try clear hcz30_0
            try clear hcz30_1
            try clear hcz30_2
            try clear hcz30_3
            try clear hcz45_0
            try clear hcz45_1
            try clear hcz45_2
            try clear hcz45_3
            try clear hcz45_4
            try clear hcz46_0
            try clear hcz46_1
            try clear hcz46_2
            try clear hcz46_3
            try clear hcz46_4
            try clear hcz47_0
            try clear hcz47_1
            try clear hcz47_2
            try clear hcz47_3
            try clear hcz47_4
            try clear hcz48_0
            try clear hcz48_1
            try clear hcz48_2
            try clear hcz48_3
            try clear hcz48_4
            try clear hcz5_0
            try clear hcz5_1
            try clear hcz5_2
            try clear hcz5_3
            try clear hcz5_4
            try clear hcz9_0
            try clear hcz9_1
            try clear hcz9_2
            try clear hcz9_3
            try clear hcz9_4
            try clear hfz14_0
            try clear hfz14_1
            try clear hfz14_2
            try clear hfz14_3
            try clear hfz14_4
            try clear hfz21_0
            try clear hfz21_1
            try clear hfz21_2
            try clear hfz21_3
            try clear hfz23_0
            try clear hfz23_1
            try clear hfz23_2
            try clear hfz23_3
            try clear hfz25_0
            try clear hfz25_1
            try clear hfz25_2
            try clear hfz25_3
            try clear hfz28_0
            try clear hfz28_1
            try clear hfz28_2
            try clear hfz28_3
            try clear hfz30_0
            try clear hfz30_1
            try clear hfz30_2
            try clear hfz30_3
            try clear hfz45_0
            try clear hfz45_1
            try clear hfz45_2
            try clear hfz45_3
            try clear hfz45_4
            try clear hfz46_0
            try clear hfz46_1
            try clear hfz46_2
            try clear hfz46_3
            try clear hfz46_4
            try clear hfz47_0
            try clear hfz47_1
            try clear hfz47_2
            try clear hfz47_3
            try clear hfz47_4
            try clear hfz48_0
            try clear hfz48_1
            try clear hfz48_2
            try clear hfz48_3
            try clear hfz48_4
            try clear hfz5_0
            try clear hfz5_1
            try clear hfz5_2
            try clear hfz5_3
            try clear hfz5_4
            try clear hfz9_0
            try clear hfz9_1
            try clear hfz9_2
            try clear hfz9_3
            try clear hfz9_4
            try clear p2
            try clear p39
            try clear p43
            try clear p6
            try clear qb39
            try clear qb43
            obtain ⟨kq, x103_34, rfl, HA, HJ34, BK138, BK139, HI0, HK, HB⟩ := hcut
            cases kq with
            | zero => exact absurd HA.out (by simp [regex_reader_set.j4])
            | succ kj34 =>
             have H := HA.out
             clear HA
             simp only [regex_reader_set.j4] at H
             have HC49 := Aside0.mk H
             clear H
             go_upto_if 103 with (fail)
             repeat (go_quiet (fail); go_upto_if 103 with (fail))
             go_cut [11] (fun v11 wc => ∃ (kq : Nat) (x11_48 : Int) (x1000_48 : ByteArray) (x1001_48 : Int) (x1002_48 : Int) (x1003_48 : Int) (x1004_48 : Int), v11 = .int .u8 x11_48 ∧ Aside0 (regex_reader_set.j5 kq (wrap64 (s0_1 - 1)) x7_2 x9_30 x11_48 x1000_48 x1001_48 x1002_48 x1003_48 x1004_48 x140000_2 x140001_2 x140002_2 x140003_2 = some (r1, r2, r3, r4, r5, r6, r7, r8, r9)) ∧ Aside0 (kq ≤ kj34) ∧ Aside0 (wc.heap[gb138]? = some (.cells #[.int .u64 0, .int .u64 0, .int .u64 0, .int .u64 0] 49 (0, 0))) ∧ Aside0 (wc.heap[gb139]? = some (.cells #[.int .u64 x140000_2, .int .u64 x140001_2, .int .u64 x140002_2, .int .u64 x140003_2] 49 (0, 0))) ∧ Aside0 (IsS76 w0 wc g x1000_48 x1001_48 x1002_48 x1003_48 x1004_48) ∧ Aside0 (KeepBut w wc g none) ∧ Aside0 (Below w0.heap.size w0 wc))
             case first =>
              have H := HC49.out
              clear HC49
              by_cases c50 : x103_34 = true
              ·subst c50
               have H1 : (if 0 ≤ (wrap64 ((wrap64 (x1001_30 + 2)) - 1)) then (if (wrap64 ((wrap64 (x1001_30 + 2)) - 1)) < (x1000_30.size : Int) then (if (bt x1000_30 (wrap64 ((wrap64 (x1001_30 + 2)) - 1))) = 92 then ((regex_reader_escape.f kj34 x1000_30 (wrap64 (x1001_30 + 2)) x1002_30 x1003_30 x1004_30).bind fun bt173 => (if bt173.1 < x9_30 then ((regex_reader_fail.f bt173.2.1 bt173.2.2.1 bt173.2.2.2.1 bt173.2.2.2.2.1 bt173.2.2.2.2.2 (wrap64 (s0_1 - 1)) 9).bind fun bt179 => (regex_reader_set.j5 kj34 (wrap64 (s0_1 - 1)) x7_2 x9_30 bt173.1 bt179.1 bt179.2.1 bt179.2.2.1 bt179.2.2.2.1 bt179.2.2.2.2 x140000_2 x140001_2 x140002_2 x140003_2)) else (regex_reader_set.j5 kj34 (wrap64 (s0_1 - 1)) x7_2 x9_30 bt173.1 bt173.2.1 bt173.2.2.1 bt173.2.2.2.1 bt173.2.2.2.2.1 bt173.2.2.2.2.2 x140000_2 x140001_2 x140002_2 x140003_2))) else (if (bt x1000_30 (wrap64 ((wrap64 (x1001_30 + 2)) - 1))) < x9_30 then ((regex_reader_fail.f x1000_30 (wrap64 (x1001_30 + 2)) x1002_30 x1003_30 x1004_30 (wrap64 (s0_1 - 1)) 9).bind fun bt184 => (regex_reader_set.j5 kj34 (wrap64 (s0_1 - 1)) x7_2 x9_30 (bt x1000_30 (wrap64 ((wrap64 (x1001_30 + 2)) - 1))) bt184.1 bt184.2.1 bt184.2.2.1 bt184.2.2.2.1 bt184.2.2.2.2 x140000_2 x140001_2 x140002_2 x140003_2)) else (regex_reader_set.j5 kj34 (wrap64 (s0_1 - 1)) x7_2 x9_30 (bt x1000_30 (wrap64 ((wrap64 (x1001_30 + 2)) - 1))) x1000_30 (wrap64 (x1001_30 + 2)) x1002_30 x1003_30 x1004_30 x140000_2 x140001_2 x140002_2 x140003_2))) else (none)) else (none)) = some (r1, r2, r3, r4, r5, r6, r7, r8, r9) := by rw [if_pos rfl] at H; exact H
               clear H
               have H := H1
               clear H1
               obtain ⟨ji51, hji51⟩ : ∃ j_ : Int, (wrap64 ((wrap64 (x1001_30 + 2)) - 1)) = j_ := ⟨_, rfl⟩
               replace H : (if 0 ≤ (ji51) then (if (ji51) < (x1000_30.size : Int) then (if (bt x1000_30 (ji51)) = 92 then ((regex_reader_escape.f kj34 x1000_30 (wrap64 (x1001_30 + 2)) x1002_30 x1003_30 x1004_30).bind fun bt173 => (if bt173.1 < x9_30 then ((regex_reader_fail.f bt173.2.1 bt173.2.2.1 bt173.2.2.2.1 bt173.2.2.2.2.1 bt173.2.2.2.2.2 (wrap64 (s0_1 - 1)) 9).bind fun bt179 => (regex_reader_set.j5 kj34 (wrap64 (s0_1 - 1)) x7_2 x9_30 bt173.1 bt179.1 bt179.2.1 bt179.2.2.1 bt179.2.2.2.1 bt179.2.2.2.2 x140000_2 x140001_2 x140002_2 x140003_2)) else (regex_reader_set.j5 kj34 (wrap64 (s0_1 - 1)) x7_2 x9_30 bt173.1 bt173.2.1 bt173.2.2.1 bt173.2.2.2.1 bt173.2.2.2.2.1 bt173.2.2.2.2.2 x140000_2 x140001_2 x140002_2 x140003_2))) else (if (bt x1000_30 (ji51)) < x9_30 then ((regex_reader_fail.f x1000_30 (wrap64 (x1001_30 + 2)) x1002_30 x1003_30 x1004_30 (wrap64 (s0_1 - 1)) 9).bind fun bt184 => (regex_reader_set.j5 kj34 (wrap64 (s0_1 - 1)) x7_2 x9_30 (bt x1000_30 (ji51)) bt184.1 bt184.2.1 bt184.2.2.1 bt184.2.2.2.1 bt184.2.2.2.2 x140000_2 x140001_2 x140002_2 x140003_2)) else (regex_reader_set.j5 kj34 (wrap64 (s0_1 - 1)) x7_2 x9_30 (bt x1000_30 (ji51)) x1000_30 (wrap64 (x1001_30 + 2)) x1002_30 x1003_30 x1004_30 x140000_2 x140001_2 x140002_2 x140003_2))) else (none)) else (none)) = some (r1, r2, r3, r4, r5, r6, r7, r8, r9) := by first | (rw [hji51] at H; exact H) | (simp only [hji51] at H ⊢; exact H)
               have hji51w : (IntKind.i64.wrap ((wrap64 (x1001_30 + 2)) - 1)) = ji51 := (i64_w _).trans hji51
               by_cases c52 : 0 ≤ (ji51)
               ·rw [if_pos c52] at H
                have c52b0 : decide (0 ≤ (ji51)) = true := decide_eq_true c52
                clear c52
                (first | rw [c52b0] | (simp only [i64_w, i32_w]; rw [c52b0]) | skip)
                by_cases c53 : (ji51) < (x1000_30.size : Int)
                ·rw [if_pos c53] at H
                 have c53b0 : decide ((ji51) < (x1000_30.size : Int)) = true := decide_eq_true c53
                 clear c53
                 by_cases c55 : (bt x1000_30 (ji51)) = 92
                 ·rw [if_pos c55] at H
                  have c55b0 : ((bt x1000_30 (ji51)) == 92) = true := beq_iff_eq.mpr c55
                  have c55b1 : ((bt x1000_30 (ji51)) != 92) = false := bne_eq_false_iff_eq.mpr c55
                  clear c55
                  replace H := Option.bind_eq_some_iff.mp H
                  obtain ⟨⟨t173, t174, t175, t176, t177, t178⟩, A560, H⟩ := H
                  replace H : (if t173 < x9_30 then ((regex_reader_fail.f t174 t175 t176 t177 t178 (wrap64 (s0_1 - 1)) 9).bind fun bt179 => (regex_reader_set.j5 kj34 (wrap64 (s0_1 - 1)) x7_2 x9_30 t173 bt179.1 bt179.2.1 bt179.2.2.1 bt179.2.2.2.1 bt179.2.2.2.2 x140000_2 x140001_2 x140002_2 x140003_2)) else (regex_reader_set.j5 kj34 (wrap64 (s0_1 - 1)) x7_2 x9_30 t173 t174 t175 t176 t177 t178 x140000_2 x140001_2 x140002_2 x140003_2)) = some (r1, r2, r3, r4, r5, r6, r7, r8, r9) := H
                  have A56 := Aside0.mk A560
                  clear A560
                  by_cases c57 : t173 < x9_30
                  ·rw [if_pos c57] at H
                   have c57b0 : decide (t173 < x9_30) = true := decide_eq_true c57
                   clear c57
                   replace H := Option.bind_eq_some_iff.mp H
                   obtain ⟨⟨t179, t180, t181, t182, t183⟩, A580, H⟩ := H
                   replace H : (regex_reader_set.j5 kj34 (wrap64 (s0_1 - 1)) x7_2 x9_30 t173 t179 t180 t181 t182 t183 x140000_2 x140001_2 x140002_2 x140003_2) = some (r1, r2, r3, r4, r5, r6, r7, r8, r9) := H
                   have A58 := Aside0.mk A580
                   clear A580
                   have H' := Aside0.mk H
                   clear H
                   obtain ⟨HGz59, hgz59⟩ := HI0.out
                   have hcz59_0 := cellS76_0 HGz59
                   have hcz59_1 := cellS76_1 HGz59
                   have hcz59_2 := cellS76_2 HGz59
                   have hcz59_3 := cellS76_3 HGz59
                   have hcz59_4 := cellS76_4 HGz59
                   have hfz59_0 := blk_frozen HGz59 0
                   have hfz59_1 := blk_frozen HGz59 1
                   have hfz59_2 := blk_frozen HGz59 2
                   have hfz59_3 := blk_frozen HGz59 3
                   have hfz59_4 := blk_frozen HGz59 4
                   clear HGz59 hgz59
                   have p54 : 0 ≤ ((ji51) : Int) := of_decide_eq_true qb11
                   have qb54 : (ji51) < (x1000_30.size : Int) := of_decide_eq_true qb11
                   have hx54 := bt_at x1000_30 (ji51)
                   replace p54 := eq_true p54
                   replace qb54 := eq_true qb54
                   go_wp2_with (first | (go_at_call 50; (with_reducible refine (regex_reader_escape.calls kj34 g x1000_30 (wrap64 (x1001_30 + 2)) x1002_30 x1003_30 x1004_30 t173 t174 t175 t176 t177 t178 w0 _ ?side1 ?side2 ?side3 A56.out).mono ?_); (case side1 => repeat (first | (with_reducible first | exact HI0.out | apply IsS76.alloc | apply IsS76.drewN | apply IsS76.drew | apply IsS76.set_0 | apply IsS76.set_1 | apply IsS76.set_2 | apply IsS76.set_3 | apply IsS76.set_4 | apply IsS76.far (hne := NB0_138.out) | apply IsS76.far (hne := NB0_139.out)) | exact HI0.out)); (case side2 => repeat (first | (with_reducible first | exact HB.out | apply below_alloc | apply pw_below_drewN | apply below_drew1 | refine below_set ?_ (IsS76.ge HI0.out) | refine below_set ?_ GE138.out | refine below_set ?_ GE139.out) | exact HB.out)); (case side3 => exact hT); rintro e w60 ⟨rfl, hi, hb, hk⟩; have n0_ := Aside0.mk (KeepBut.blk hk (g' := gb138) (o := .cells #[.int .u64 0, .int .u64 0, .int .u64 0, .int .u64 0] 49 (0, 0)) qb5 NB138_0.out (by simp)); have n1_ := Aside0.mk (KeepBut.blk hk (g' := gb139) (o := .cells #[.int .u64 x140000_2, .int .u64 x140001_2, .int .u64 x140002_2, .int .u64 x140003_2] 49 (0, 0)) qb6 NB139_0.out (by simp)); have n2_ := Aside0.mk (KeepBut.trans qb0 hk (.inl rfl)); have n3_ := Aside0.mk (hb); have n4_ := Aside0.mk (hi); clear BK138; clear BK139; clear HK; clear HB; clear HI0; have BK138 := n0_; have BK139 := n1_; have HK := n2_; have HB := n3_; have HI0 := n4_; clear n0_ n1_ n2_ n3_ n4_; (try clear hb); (try clear hb2); (try clear hk); (try clear hi)) | (go_at_call 41; (with_reducible refine (regex_reader_fail.calls g t174 t175 t176 t177 t178 (wrap64 (s0_1 - 1)) 9 t179 t180 t181 t182 t183 w0 _ ?side1 ?side2 ?side3 A58.out).mono ?_); (case side1 => repeat (first | (with_reducible first | exact HI0.out | apply IsS76.alloc | apply IsS76.drewN | apply IsS76.drew | apply IsS76.set_0 | apply IsS76.set_1 | apply IsS76.set_2 | apply IsS76.set_3 | apply IsS76.set_4 | apply IsS76.far (hne := NB0_138.out) | apply IsS76.far (hne := NB0_139.out)) | exact HI0.out)); (case side2 => repeat (first | (with_reducible first | exact HB.out | apply below_alloc | apply pw_below_drewN | apply below_drew1 | refine below_set ?_ (IsS76.ge HI0.out) | refine below_set ?_ GE138.out | refine below_set ?_ GE139.out) | exact HB.out)); (case side3 => exact hT); rintro e w61 ⟨rfl, hi, hb, hk⟩; have n0_ := Aside0.mk (KeepBut.blk hk (g' := gb138) (o := .cells #[.int .u64 0, .int .u64 0, .int .u64 0, .int .u64 0] 49 (0, 0)) qb1 NB138_0.out (by simp)); have n1_ := Aside0.mk (KeepBut.blk hk (g' := gb139) (o := .cells #[.int .u64 x140000_2, .int .u64 x140001_2, .int .u64 x140002_2, .int .u64 x140003_2] 49 (0, 0)) qb3 NB139_0.out (by simp)); have n2_ := Aside0.mk (KeepBut.trans qb0 hk (.inl rfl)); have n3_ := Aside0.mk (hb); have n4_ := Aside0.mk (hi); clear BK138; clear BK139; clear HK; clear HB; clear HI0; have BK138 := n0_; have BK139 := n1_; have HK := n2_; have HB := n3_; have HI0 := n4_; clear n0_ n1_ n2_ n3_ n4_; (try clear hb); (try clear hb2); (try clear hk); (try clear hi)))
                   repeat (go_quiet (first | (go_at_call 50; (with_reducible refine (regex_reader_escape.calls kj34 g x1000_30 (wrap64 (x1001_30 + 2)) x1002_30 x1003_30 x1004_30 t173 t174 t175 t176 t177 t178 w0 _ ?side1 ?side2 ?side3 A56.out).mono ?_); (case side1 => repeat (first | (with_reducible first | exact HI0.out | apply IsS76.alloc | apply IsS76.drewN | apply IsS76.drew | apply IsS76.set_0 | apply IsS76.set_1 | apply IsS76.set_2 | apply IsS76.set_3 | apply IsS76.set_4 | apply IsS76.far (hne := NB0_138.out) | apply IsS76.far (hne := NB0_139.out)) | exact HI0.out)); (case side2 => repeat (first | (with_reducible first | exact HB.out | apply below_alloc | apply pw_below_drewN | apply below_drew1 | refine below_set ?_ (IsS76.ge HI0.out) | refine below_set ?_ GE138.out | refine below_set ?_ GE139.out) | exact HB.out)); (case side3 => exact hT); rintro e w60 ⟨rfl, hi, hb, hk⟩; have n0_ := Aside0.mk (KeepBut.blk hk (g' := gb138) (o := .cells #[.int .u64 0, .int .u64 0, .int .u64 0, .int .u64 0] 49 (0, 0)) qb5 NB138_0.out (by simp)); have n1_ := Aside0.mk (KeepBut.blk hk (g' := gb139) (o := .cells #[.int .u64 x140000_2, .int .u64 x140001_2, .int .u64 x140002_2, .int .u64 x140003_2] 49 (0, 0)) qb6 NB139_0.out (by simp)); have n2_ := Aside0.mk (KeepBut.trans qb0 hk (.inl rfl)); have n3_ := Aside0.mk (hb); have n4_ := Aside0.mk (hi); clear BK138; clear BK139; clear HK; clear HB; clear HI0; have BK138 := n0_; have BK139 := n1_; have HK := n2_; have HB := n3_; have HI0 := n4_; clear n0_ n1_ n2_ n3_ n4_; (try clear hb); (try clear hb2); (try clear hk); (try clear hi)) | (go_at_call 41; (with_reducible refine (regex_reader_fail.calls g t174 t175 t176 t177 t178 (wrap64 (s0_1 - 1)) 9 t179 t180 t181 t182 t183 w0 _ ?side1 ?side2 ?side3 A58.out).mono ?_); (case side1 => repeat (first | (with_reducible first | exact HI0.out | apply IsS76.alloc | apply IsS76.drewN | apply IsS76.drew | apply IsS76.set_0 | apply IsS76.set_1 | apply IsS76.set_2 | apply IsS76.set_3 | apply IsS76.set_4 | apply IsS76.far (hne := NB0_138.out) | apply IsS76.far (hne := NB0_139.out)) | exact HI0.out)); (case side2 => repeat (first | (with_reducible first | exact HB.out | apply below_alloc | apply pw_below_drewN | apply below_drew1 | refine below_set ?_ (IsS76.ge HI0.out) | refine below_set ?_ GE138.out | refine below_set ?_ GE139.out) | exact HB.out)); (case side3 => exact hT); rintro e w61 ⟨rfl, hi, hb, hk⟩; have n0_ := Aside0.mk (KeepBut.blk hk (g' := gb138) (o := .cells #[.int .u64 0, .int .u64 0, .int .u64 0, .int .u64 0] 49 (0, 0)) qb1 NB138_0.out (by simp)); have n1_ := Aside0.mk (KeepBut.blk hk (g' := gb139) (o := .cells #[.int .u64 x140000_2, .int .u64 x140001_2, .int .u64 x140002_2, .int .u64 x140003_2] 49 (0, 0)) qb3 NB139_0.out (by simp)); have n2_ := Aside0.mk (KeepBut.trans qb0 hk (.inl rfl)); have n3_ := Aside0.mk (hb); have n4_ := Aside0.mk (hi); clear BK138; clear BK139; clear HK; clear HB; clear HI0; have BK138 := n0_; have BK139 := n1_; have HK := n2_; have HB := n3_; have HI0 := n4_; clear n0_ n1_ n2_ n3_ n4_; (try clear hb); (try clear hb2); (try clear hk); (try clear hi))); try go_wp2_with (first | (go_at_call 50; (with_reducible refine (regex_reader_escape.calls kj34 g x1000_30 (wrap64 (x1001_30 + 2)) x1002_30 x1003_30 x1004_30 t173 t174 t175 t176 t177 t178 w0 _ ?side1 ?side2 ?side3 A56.out).mono ?_); (case side1 => repeat (first | (with_reducible first | exact HI0.out | apply IsS76.alloc | apply IsS76.drewN | apply IsS76.drew | apply IsS76.set_0 | apply IsS76.set_1 | apply IsS76.set_2 | apply IsS76.set_3 | apply IsS76.set_4 | apply IsS76.far (hne := NB0_138.out) | apply IsS76.far (hne := NB0_139.out)) | exact HI0.out)); (case side2 => repeat (first | (with_reducible first | exact HB.out | apply below_alloc | apply pw_below_drewN | apply below_drew1 | refine below_set ?_ (IsS76.ge HI0.out) | refine below_set ?_ GE138.out | refine below_set ?_ GE139.out) | exact HB.out)); (case side3 => exact hT); rintro e w60 ⟨rfl, hi, hb, hk⟩; have n0_ := Aside0.mk (KeepBut.blk hk (g' := gb138) (o := .cells #[.int .u64 0, .int .u64 0, .int .u64 0, .int .u64 0] 49 (0, 0)) qb5 NB138_0.out (by simp)); have n1_ := Aside0.mk (KeepBut.blk hk (g' := gb139) (o := .cells #[.int .u64 x140000_2, .int .u64 x140001_2, .int .u64 x140002_2, .int .u64 x140003_2] 49 (0, 0)) qb6 NB139_0.out (by simp)); have n2_ := Aside0.mk (KeepBut.trans qb0 hk (.inl rfl)); have n3_ := Aside0.mk (hb); have n4_ := Aside0.mk (hi); clear BK138; clear BK139; clear HK; clear HB; clear HI0; have BK138 := n0_; have BK139 := n1_; have HK := n2_; have HB := n3_; have HI0 := n4_; clear n0_ n1_ n2_ n3_ n4_; (try clear hb); (try clear hb2); (try clear hk); (try clear hi)) | (go_at_call 41; (with_reducible refine (regex_reader_fail.calls g t174 t175 t176 t177 t178 (wrap64 (s0_1 - 1)) 9 t179 t180 t181 t182 t183 w0 _ ?side1 ?side2 ?side3 A58.out).mono ?_); (case side1 => repeat (first | (with_reducible first | exact HI0.out | apply IsS76.alloc | apply IsS76.drewN | apply IsS76.drew | apply IsS76.set_0 | apply IsS76.set_1 | apply IsS76.set_2 | apply IsS76.set_3 | apply IsS76.set_4 | apply IsS76.far (hne := NB0_138.out) | apply IsS76.far (hne := NB0_139.out)) | exact HI0.out)); (case side2 => repeat (first | (with_reducible first | exact HB.out | apply below_alloc | apply pw_below_drewN | apply below_drew1 | refine below_set ?_ (IsS76.ge HI0.out) | refine below_set ?_ GE138.out | refine below_set ?_ GE139.out) | exact HB.out)); (case side3 => exact hT); rintro e w61 ⟨rfl, hi, hb, hk⟩; have n0_ := Aside0.mk (KeepBut.blk hk (g' := gb138) (o := .cells #[.int .u64 0, .int .u64 0, .int .u64 0, .int .u64 0] 49 (0, 0)) qb1 NB138_0.out (by simp)); have n1_ := Aside0.mk (KeepBut.blk hk (g' := gb139) (o := .cells #[.int .u64 x140000_2, .int .u64 x140001_2, .int .u64 x140002_2, .int .u64 x140003_2] 49 (0, 0)) qb3 NB139_0.out (by simp)); have n2_ := Aside0.mk (KeepBut.trans qb0 hk (.inl rfl)); have n3_ := Aside0.mk (hb); have n4_ := Aside0.mk (hi); clear BK138; clear BK139; clear HK; clear HB; clear HI0; have BK138 := n0_; have BK139 := n1_; have HK := n2_; have HB := n3_; have HI0 := n4_; clear n0_ n1_ n2_ n3_ n4_; (try clear hb); (try clear hb2); (try clear hk); (try clear hi))))
                   go_meet
                   case rel => exact ⟨_, (t173), (t179), (t180), (t181), (t182), (t183), qb8, H', ⟨by have := HJ2.out; have := HK2.out; have := HJ11.out; have := HJ30.out; have := HJ34.out; first | omega | exact Nat.le_refl _⟩, ⟨by (with_reducible repeat (first | refine blk_drewN ?_ _ | refine blk_drew ?_ | refine blk_alloc ?_ _)); exact BK138.out⟩, ⟨by (with_reducible repeat (first | refine blk_drewN ?_ _ | refine blk_drew ?_ | refine blk_alloc ?_ _)); exact BK139.out⟩, ⟨by repeat (first | (with_reducible first | exact HI0.out | apply IsS76.alloc | apply IsS76.drewN | apply IsS76.drew | apply IsS76.set_0 | apply IsS76.set_1 | apply IsS76.set_2 | apply IsS76.set_3 | apply IsS76.set_4 | apply IsS76.far (hne := NB0_138.out) | apply IsS76.far (hne := NB0_139.out)) | exact HI0.out)⟩, ⟨by repeat (first | (with_reducible first | exact HK.out | apply KeepBut.set_ | apply keep_drewN | apply keep_drew | apply keep_alloc | refine keep_far ?_ GW138.out _ | refine keep_far ?_ GW139.out _) | exact HK.out)⟩, ⟨by repeat (first | (with_reducible first | exact HB.out | apply below_alloc | apply pw_below_drewN | apply below_drew1 | refine below_set ?_ (IsS76.ge HI0.out) | refine below_set ?_ GE138.out | refine below_set ?_ GE139.out) | exact HB.out)⟩⟩
                  ·rw [if_neg c57] at H
                   have c57b0 : decide (t173 < x9_30) = false := decide_eq_false c57
                   clear c57
                   have H' := Aside0.mk H
                   clear H
                   obtain ⟨HGz62, hgz62⟩ := HI0.out
                   have hcz62_0 := cellS76_0 HGz62
                   have hcz62_1 := cellS76_1 HGz62
                   have hcz62_2 := cellS76_2 HGz62
                   have hcz62_3 := cellS76_3 HGz62
                   have hcz62_4 := cellS76_4 HGz62
                   have hfz62_0 := blk_frozen HGz62 0
                   have hfz62_1 := blk_frozen HGz62 1
                   have hfz62_2 := blk_frozen HGz62 2
                   have hfz62_3 := blk_frozen HGz62 3
                   have hfz62_4 := blk_frozen HGz62 4
                   clear HGz62 hgz62
                   have p54 : 0 ≤ ((ji51) : Int) := of_decide_eq_true qb11
                   have qb54 : (ji51) < (x1000_30.size : Int) := of_decide_eq_true qb11
                   have hx54 := bt_at x1000_30 (ji51)
                   replace p54 := eq_true p54
                   replace qb54 := eq_true qb54
                   go_wp2_with (first | (go_at_call 50; (with_reducible refine (regex_reader_escape.calls kj34 g x1000_30 (wrap64 (x1001_30 + 2)) x1002_30 x1003_30 x1004_30 t173 t174 t175 t176 t177 t178 w0 _ ?side1 ?side2 ?side3 A56.out).mono ?_); (case side1 => repeat (first | (with_reducible first | exact HI0.out | apply IsS76.alloc | apply IsS76.drewN | apply IsS76.drew | apply IsS76.set_0 | apply IsS76.set_1 | apply IsS76.set_2 | apply IsS76.set_3 | apply IsS76.set_4 | apply IsS76.far (hne := NB0_138.out) | apply IsS76.far (hne := NB0_139.out)) | exact HI0.out)); (case side2 => repeat (first | (with_reducible first | exact HB.out | apply below_alloc | apply pw_below_drewN | apply below_drew1 | refine below_set ?_ (IsS76.ge HI0.out) | refine below_set ?_ GE138.out | refine below_set ?_ GE139.out) | exact HB.out)); (case side3 => exact hT); rintro e w63 ⟨rfl, hi, hb, hk⟩; have n0_ := Aside0.mk (KeepBut.blk hk (g' := gb138) (o := .cells #[.int .u64 0, .int .u64 0, .int .u64 0, .int .u64 0] 49 (0, 0)) qb5 NB138_0.out (by simp)); have n1_ := Aside0.mk (KeepBut.blk hk (g' := gb139) (o := .cells #[.int .u64 x140000_2, .int .u64 x140001_2, .int .u64 x140002_2, .int .u64 x140003_2] 49 (0, 0)) qb6 NB139_0.out (by simp)); have n2_ := Aside0.mk (KeepBut.trans qb0 hk (.inl rfl)); have n3_ := Aside0.mk (hb); have n4_ := Aside0.mk (hi); clear BK138; clear BK139; clear HK; clear HB; clear HI0; have BK138 := n0_; have BK139 := n1_; have HK := n2_; have HB := n3_; have HI0 := n4_; clear n0_ n1_ n2_ n3_ n4_; (try clear hb); (try clear hb2); (try clear hk); (try clear hi)))
                   repeat (go_quiet (first | (go_at_call 50; (with_reducible refine (regex_reader_escape.calls kj34 g x1000_30 (wrap64 (x1001_30 + 2)) x1002_30 x1003_30 x1004_30 t173 t174 t175 t176 t177 t178 w0 _ ?side1 ?side2 ?side3 A56.out).mono ?_); (case side1 => repeat (first | (with_reducible first | exact HI0.out | apply IsS76.alloc | apply IsS76.drewN | apply IsS76.drew | apply IsS76.set_0 | apply IsS76.set_1 | apply IsS76.set_2 | apply IsS76.set_3 | apply IsS76.set_4 | apply IsS76.far (hne := NB0_138.out) | apply IsS76.far (hne := NB0_139.out)) | exact HI0.out)); (case side2 => repeat (first | (with_reducible first | exact HB.out | apply below_alloc | apply pw_below_drewN | apply below_drew1 | refine below_set ?_ (IsS76.ge HI0.out) | refine below_set ?_ GE138.out | refine below_set ?_ GE139.out) | exact HB.out)); (case side3 => exact hT); rintro e w63 ⟨rfl, hi, hb, hk⟩; have n0_ := Aside0.mk (KeepBut.blk hk (g' := gb138) (o := .cells #[.int .u64 0, .int .u64 0, .int .u64 0, .int .u64 0] 49 (0, 0)) qb5 NB138_0.out (by simp)); have n1_ := Aside0.mk (KeepBut.blk hk (g' := gb139) (o := .cells #[.int .u64 x140000_2, .int .u64 x140001_2, .int .u64 x140002_2, .int .u64 x140003_2] 49 (0, 0)) qb6 NB139_0.out (by simp)); have n2_ := Aside0.mk (KeepBut.trans qb0 hk (.inl rfl)); have n3_ := Aside0.mk (hb); have n4_ := Aside0.mk (hi); clear BK138; clear BK139; clear HK; clear HB; clear HI0; have BK138 := n0_; have BK139 := n1_; have HK := n2_; have HB := n3_; have HI0 := n4_; clear n0_ n1_ n2_ n3_ n4_; (try clear hb); (try clear hb2); (try clear hk); (try clear hi))); try go_wp2_with (first | (go_at_call 50; (with_reducible refine (regex_reader_escape.calls kj34 g x1000_30 (wrap64 (x1001_30 + 2)) x1002_30 x1003_30 x1004_30 t173 t174 t175 t176 t177 t178 w0 _ ?side1 ?side2 ?side3 A56.out).mono ?_); (case side1 => repeat (first | (with_reducible first | exact HI0.out | apply IsS76.alloc | apply IsS76.drewN | apply IsS76.drew | apply IsS76.set_0 | apply IsS76.set_1 | apply IsS76.set_2 | apply IsS76.set_3 | apply IsS76.set_4 | apply IsS76.far (hne := NB0_138.out) | apply IsS76.far (hne := NB0_139.out)) | exact HI0.out)); (case side2 => repeat (first | (with_reducible first | exact HB.out | apply below_alloc | apply pw_below_drewN | apply below_drew1 | refine below_set ?_ (IsS76.ge HI0.out) | refine below_set ?_ GE138.out | refine below_set ?_ GE139.out) | exact HB.out)); (case side3 => exact hT); rintro e w63 ⟨rfl, hi, hb, hk⟩; have n0_ := Aside0.mk (KeepBut.blk hk (g' := gb138) (o := .cells #[.int .u64 0, .int .u64 0, .int .u64 0, .int .u64 0] 49 (0, 0)) qb5 NB138_0.out (by simp)); have n1_ := Aside0.mk (KeepBut.blk hk (g' := gb139) (o := .cells #[.int .u64 x140000_2, .int .u64 x140001_2, .int .u64 x140002_2, .int .u64 x140003_2] 49 (0, 0)) qb6 NB139_0.out (by simp)); have n2_ := Aside0.mk (KeepBut.trans qb0 hk (.inl rfl)); have n3_ := Aside0.mk (hb); have n4_ := Aside0.mk (hi); clear BK138; clear BK139; clear HK; clear HB; clear HI0; have BK138 := n0_; have BK139 := n1_; have HK := n2_; have HB := n3_; have HI0 := n4_; clear n0_ n1_ n2_ n3_ n4_; (try clear hb); (try clear hb2); (try clear hk); (try clear hi))))
                   go_meet
                   case rel => exact ⟨_, (t173), (t174), (t175), (t176), (t177), (t178), qb8, H', ⟨by have := HJ2.out; have := HK2.out; have := HJ11.out; have := HJ30.out; have := HJ34.out; first | omega | exact Nat.le_refl _⟩, ⟨by (with_reducible repeat (first | refine blk_drewN ?_ _ | refine blk_drew ?_ | refine blk_alloc ?_ _)); exact BK138.out⟩, ⟨by (with_reducible repeat (first | refine blk_drewN ?_ _ | refine blk_drew ?_ | refine blk_alloc ?_ _)); exact BK139.out⟩, ⟨by repeat (first | (with_reducible first | exact HI0.out | apply IsS76.alloc | apply IsS76.drewN | apply IsS76.drew | apply IsS76.set_0 | apply IsS76.set_1 | apply IsS76.set_2 | apply IsS76.set_3 | apply IsS76.set_4 | apply IsS76.far (hne := NB0_138.out) | apply IsS76.far (hne := NB0_139.out)) | exact HI0.out)⟩, ⟨by repeat (first | (with_reducible first | exact HK.out | apply KeepBut.set_ | apply keep_drewN | apply keep_drew | apply keep_alloc | refine keep_far ?_ GW138.out _ | refine keep_far ?_ GW139.out _) | exact HK.out)⟩, ⟨by repeat (first | (with_reducible first | exact HB.out | apply below_alloc | apply pw_below_drewN | apply below_drew1 | refine below_set ?_ (IsS76.ge HI0.out) | refine below_set ?_ GE138.out | refine below_set ?_ GE139.out) | exact HB.out)⟩⟩
                 ·rw [if_neg c55] at H
                  have c55b0 : ((bt x1000_30 (ji51)) == 92) = false := beq_eq_false_iff_ne.mpr c55
                  have c55b1 : ((bt x1000_30 (ji51)) != 92) = true := bne_iff_ne.mpr c55
                  by_cases c64 : (bt x1000_30 (ji51)) < x9_30
                  ·rw [if_pos c64] at H
                   have c64b0 : decide ((bt x1000_30 (ji51)) < x9_30) = true := decide_eq_true c64
                   clear c64
                   replace H := Option.bind_eq_some_iff.mp H
                   obtain ⟨⟨t184, t185, t186, t187, t188⟩, A650, H⟩ := H
                   replace H : (regex_reader_set.j5 kj34 (wrap64 (s0_1 - 1)) x7_2 x9_30 (bt x1000_30 (ji51)) t184 t185 t186 t187 t188 x140000_2 x140001_2 x140002_2 x140003_2) = some (r1, r2, r3, r4, r5, r6, r7, r8, r9) := H
                   have A65 := Aside0.mk A650
                   clear A650
                   have H' := Aside0.mk H
                   clear H
                   obtain ⟨HGz66, hgz66⟩ := HI0.out
                   have hcz66_0 := cellS76_0 HGz66
                   have hcz66_1 := cellS76_1 HGz66
                   have hcz66_2 := cellS76_2 HGz66
                   have hcz66_3 := cellS76_3 HGz66
                   have hcz66_4 := cellS76_4 HGz66
                   have hfz66_0 := blk_frozen HGz66 0
                   have hfz66_1 := blk_frozen HGz66 1
                   have hfz66_2 := blk_frozen HGz66 2
                   have hfz66_3 := blk_frozen HGz66 3
                   have hfz66_4 := blk_frozen HGz66 4
                   clear HGz66 hgz66
                   have p54 : 0 ≤ ((ji51) : Int) := of_decide_eq_true qb11
                   have qb54 : (ji51) < (x1000_30.size : Int) := of_decide_eq_true qb11
                   have hx54 := bt_at x1000_30 (ji51)
                   replace p54 := eq_true p54
                   replace qb54 := eq_true qb54
                   go_wp2_with (first | (go_at_call 41; (with_reducible refine (regex_reader_fail.calls g x1000_30 (wrap64 (x1001_30 + 2)) x1002_30 x1003_30 x1004_30 (wrap64 (s0_1 - 1)) 9 t184 t185 t186 t187 t188 w0 _ ?side1 ?side2 ?side3 A65.out).mono ?_); (case side1 => repeat (first | (with_reducible first | exact HI0.out | apply IsS76.alloc | apply IsS76.drewN | apply IsS76.drew | apply IsS76.set_0 | apply IsS76.set_1 | apply IsS76.set_2 | apply IsS76.set_3 | apply IsS76.set_4 | apply IsS76.far (hne := NB0_138.out) | apply IsS76.far (hne := NB0_139.out)) | exact HI0.out)); (case side2 => repeat (first | (with_reducible first | exact HB.out | apply below_alloc | apply pw_below_drewN | apply below_drew1 | refine below_set ?_ (IsS76.ge HI0.out) | refine below_set ?_ GE138.out | refine below_set ?_ GE139.out) | exact HB.out)); (case side3 => exact hT); rintro e w67 ⟨rfl, hi, hb, hk⟩; have n0_ := Aside0.mk (KeepBut.blk hk (g' := gb138) (o := .cells #[.int .u64 0, .int .u64 0, .int .u64 0, .int .u64 0] 49 (0, 0)) qb5 NB138_0.out (by simp)); have n1_ := Aside0.mk (KeepBut.blk hk (g' := gb139) (o := .cells #[.int .u64 x140000_2, .int .u64 x140001_2, .int .u64 x140002_2, .int .u64 x140003_2] 49 (0, 0)) qb6 NB139_0.out (by simp)); have n2_ := Aside0.mk (KeepBut.trans qb0 hk (.inl rfl)); have n3_ := Aside0.mk (hb); have n4_ := Aside0.mk (hi); clear BK138; clear BK139; clear HK; clear HB; clear HI0; have BK138 := n0_; have BK139 := n1_; have HK := n2_; have HB := n3_; have HI0 := n4_; clear n0_ n1_ n2_ n3_ n4_; (try clear hb); (try clear hb2); (try clear hk); (try clear hi)))
                   repeat (go_quiet (first | (go_at_call 41; (with_reducible refine (regex_reader_fail.calls g x1000_30 (wrap64 (x1001_30 + 2)) x1002_30 x1003_30 x1004_30 (wrap64 (s0_1 - 1)) 9 t184 t185 t186 t187 t188 w0 _ ?side1 ?side2 ?side3 A65.out).mono ?_); (case side1 => repeat (first | (with_reducible first | exact HI0.out | apply IsS76.alloc | apply IsS76.drewN | apply IsS76.drew | apply IsS76.set_0 | apply IsS76.set_1 | apply IsS76.set_2 | apply IsS76.set_3 | apply IsS76.set_4 | apply IsS76.far (hne := NB0_138.out) | apply IsS76.far (hne := NB0_139.out)) | exact HI0.out)); (case side2 => repeat (first | (with_reducible first | exact HB.out | apply below_alloc | apply pw_below_drewN | apply below_drew1 | refine below_set ?_ (IsS76.ge HI0.out) | refine below_set ?_ GE138.out | refine below_set ?_ GE139.out) | exact HB.out)); (case side3 => exact hT); rintro e w67 ⟨rfl, hi, hb, hk⟩; have n0_ := Aside0.mk (KeepBut.blk hk (g' := gb138) (o := .cells #[.int .u64 0, .int .u64 0, .int .u64 0, .int .u64 0] 49 (0, 0)) qb5 NB138_0.out (by simp)); have n1_ := Aside0.mk (KeepBut.blk hk (g' := gb139) (o := .cells #[.int .u64 x140000_2, .int .u64 x140001_2, .int .u64 x140002_2, .int .u64 x140003_2] 49 (0, 0)) qb6 NB139_0.out (by simp)); have n2_ := Aside0.mk (KeepBut.trans qb0 hk (.inl rfl)); have n3_ := Aside0.mk (hb); have n4_ := Aside0.mk (hi); clear BK138; clear BK139; clear HK; clear HB; clear HI0; have BK138 := n0_; have BK139 := n1_; have HK := n2_; have HB := n3_; have HI0 := n4_; clear n0_ n1_ n2_ n3_ n4_; (try clear hb); (try clear hb2); (try clear hk); (try clear hi))); try go_wp2_with (first | (go_at_call 41; (with_reducible refine (regex_reader_fail.calls g x1000_30 (wrap64 (x1001_30 + 2)) x1002_30 x1003_30 x1004_30 (wrap64 (s0_1 - 1)) 9 t184 t185 t186 t187 t188 w0 _ ?side1 ?side2 ?side3 A65.out).mono ?_); (case side1 => repeat (first | (with_reducible first | exact HI0.out | apply IsS76.alloc | apply IsS76.drewN | apply IsS76.drew | apply IsS76.set_0 | apply IsS76.set_1 | apply IsS76.set_2 | apply IsS76.set_3 | apply IsS76.set_4 | apply IsS76.far (hne := NB0_138.out) | apply IsS76.far (hne := NB0_139.out)) | exact HI0.out)); (case side2 => repeat (first | (with_reducible first | exact HB.out | apply below_alloc | apply pw_below_drewN | apply below_drew1 | refine below_set ?_ (IsS76.ge HI0.out) | refine below_set ?_ GE138.out | refine below_set ?_ GE139.out) | exact HB.out)); (case side3 => exact hT); rintro e w67 ⟨rfl, hi, hb, hk⟩; have n0_ := Aside0.mk (KeepBut.blk hk (g' := gb138) (o := .cells #[.int .u64 0, .int .u64 0, .int .u64 0, .int .u64 0] 49 (0, 0)) qb5 NB138_0.out (by simp)); have n1_ := Aside0.mk (KeepBut.blk hk (g' := gb139) (o := .cells #[.int .u64 x140000_2, .int .u64 x140001_2, .int .u64 x140002_2, .int .u64 x140003_2] 49 (0, 0)) qb6 NB139_0.out (by simp)); have n2_ := Aside0.mk (KeepBut.trans qb0 hk (.inl rfl)); have n3_ := Aside0.mk (hb); have n4_ := Aside0.mk (hi); clear BK138; clear BK139; clear HK; clear HB; clear HI0; have BK138 := n0_; have BK139 := n1_; have HK := n2_; have HB := n3_; have HI0 := n4_; clear n0_ n1_ n2_ n3_ n4_; (try clear hb); (try clear hb2); (try clear hk); (try clear hi))))
                   go_meet
                   case rel => exact ⟨_, (bt x1000_30 (ji51)), (t184), (t185), (t186), (t187), (t188), (by first | rfl | (simp; done) | (simp only [← hji51] <;> (first | rfl | simp)) | (simp [*]; done) | (simp; unfold wrap64; omega)), H', ⟨by have := HJ2.out; have := HK2.out; have := HJ11.out; have := HJ30.out; have := HJ34.out; first | omega | exact Nat.le_refl _⟩, ⟨by (with_reducible repeat (first | refine blk_drewN ?_ _ | refine blk_drew ?_ | refine blk_alloc ?_ _)); exact BK138.out⟩, ⟨by (with_reducible repeat (first | refine blk_drewN ?_ _ | refine blk_drew ?_ | refine blk_alloc ?_ _)); exact BK139.out⟩, ⟨by repeat (first | (with_reducible first | exact HI0.out | apply IsS76.alloc | apply IsS76.drewN | apply IsS76.drew | apply IsS76.set_0 | apply IsS76.set_1 | apply IsS76.set_2 | apply IsS76.set_3 | apply IsS76.set_4 | apply IsS76.far (hne := NB0_138.out) | apply IsS76.far (hne := NB0_139.out)) | exact HI0.out)⟩, ⟨by repeat (first | (with_reducible first | exact HK.out | apply KeepBut.set_ | apply keep_drewN | apply keep_drew | apply keep_alloc | refine keep_far ?_ GW138.out _ | refine keep_far ?_ GW139.out _) | exact HK.out)⟩, ⟨by repeat (first | (with_reducible first | exact HB.out | apply below_alloc | apply pw_below_drewN | apply below_drew1 | refine below_set ?_ (IsS76.ge HI0.out) | refine below_set ?_ GE138.out | refine below_set ?_ GE139.out) | exact HB.out)⟩⟩
                  ·rw [if_neg c64] at H
                   have c64b0 : decide ((bt x1000_30 (ji51)) < x9_30) = false := decide_eq_false c64
                   clear c64
                   have H' := Aside0.mk H
                   clear H
                   obtain ⟨HGz68, hgz68⟩ := HI0.out
                   have hcz68_0 := cellS76_0 HGz68
                   have hcz68_1 := cellS76_1 HGz68
                   have hcz68_2 := cellS76_2 HGz68
                   have hcz68_3 := cellS76_3 HGz68
                   have hcz68_4 := cellS76_4 HGz68
                   have hfz68_0 := blk_frozen HGz68 0
                   have hfz68_1 := blk_frozen HGz68 1
                   have hfz68_2 := blk_frozen HGz68 2
                   have hfz68_3 := blk_frozen HGz68 3
                   have hfz68_4 := blk_frozen HGz68 4
                   clear HGz68 hgz68
                   have p54 : 0 ≤ ((ji51) : Int) := of_decide_eq_true qb11
                   have qb54 : (ji51) < (x1000_30.size : Int) := of_decide_eq_true qb11
                   have hx54 := bt_at x1000_30 (ji51)
                   replace p54 := eq_true p54
                   replace qb54 := eq_true qb54
                   go_wp2
                   repeat (go_quiet (fail); try go_wp2)
                   go_meet
                   case rel => exact ⟨_, (bt x1000_30 (ji51)), (x1000_30), (wrap64 (x1001_30 + 2)), (x1002_30), (x1003_30), (x1004_30), (by first | rfl | (simp; done) | (simp only [← hji51] <;> (first | rfl | simp)) | (simp [*]; done) | (simp; unfold wrap64; omega)), H', ⟨by have := HJ2.out; have := HK2.out; have := HJ11.out; have := HJ30.out; have := HJ34.out; first | omega | exact Nat.le_refl _⟩, ⟨by (with_reducible repeat (first | refine blk_drewN ?_ _ | refine blk_drew ?_ | refine blk_alloc ?_ _)); refine blk_far ?_ NB138_0.out _; (with_reducible repeat (first | refine blk_drewN ?_ _ | refine blk_drew ?_ | refine blk_alloc ?_ _)); exact BK138.out⟩, ⟨by (with_reducible repeat (first | refine blk_drewN ?_ _ | refine blk_drew ?_ | refine blk_alloc ?_ _)); refine blk_far ?_ NB139_0.out _; (with_reducible repeat (first | refine blk_drewN ?_ _ | refine blk_drew ?_ | refine blk_alloc ?_ _)); exact BK139.out⟩, ⟨by repeat (first | (with_reducible first | exact HI0.out | apply IsS76.alloc | apply IsS76.drewN | apply IsS76.drew | apply IsS76.set_0 | apply IsS76.set_1 | apply IsS76.set_2 | apply IsS76.set_3 | apply IsS76.set_4 | apply IsS76.far (hne := NB0_138.out) | apply IsS76.far (hne := NB0_139.out)) | exact HI0.out)⟩, ⟨by repeat (first | (with_reducible first | exact HK.out | apply KeepBut.set_ | apply keep_drewN | apply keep_drew | apply keep_alloc | refine keep_far ?_ GW138.out _ | refine keep_far ?_ GW139.out _) | exact HK.out)⟩, ⟨by repeat (first | (with_reducible first | exact HB.out | apply below_alloc | apply pw_below_drewN | apply below_drew1 | refine below_set ?_ (IsS76.ge HI0.out) | refine below_set ?_ GE138.out | refine below_set ?_ GE139.out) | exact HB.out)⟩⟩
                ·rw [if_neg c53] at H
                 exact absurd H (by simp)
               ·rw [if_neg c52] at H
                exact absurd H (by simp)
              ·replace c50 := Bool.eq_false_iff.mpr c50
               subst c50
               have H1 : (regex_reader_set.j5 kj34 (wrap64 (s0_1 - 1)) x7_2 x9_30 x9_30 x1000_30 x1001_30 x1002_30 x1003_30 x1004_30 x140000_2 x140001_2 x140002_2 x140003_2) = some (r1, r2, r3, r4, r5, r6, r7, r8, r9) := by rw [if_neg (show ¬ (false = true) by decide)] at H; exact H
               clear H
               have H := H1
               clear H1
               have H' := Aside0.mk H
               clear H
               go_wp2
               repeat (go_quiet (fail); try go_wp2)
               go_meet
               case rel => exact ⟨_, (x9_30), (x1000_30), (x1001_30), (x1002_30), (x1003_30), (x1004_30), qb8, H', ⟨by have := HJ2.out; have := HK2.out; have := HJ11.out; have := HJ30.out; have := HJ34.out; first | omega | exact Nat.le_refl _⟩, ⟨by (with_reducible repeat (first | refine blk_drewN ?_ _ | refine blk_drew ?_ | refine blk_alloc ?_ _)); exact BK138.out⟩, ⟨by (with_reducible repeat (first | refine blk_drewN ?_ _ | refine blk_drew ?_ | refine blk_alloc ?_ _)); exact BK139.out⟩, ⟨by repeat (first | (with_reducible first | exact HI0.out | apply IsS76.alloc | apply IsS76.drewN | apply IsS76.drew | apply IsS76.set_0 | apply IsS76.set_1 | apply IsS76.set_2 | apply IsS76.set_3 | apply IsS76.set_4 | apply IsS76.far (hne := NB0_138.out) | apply IsS76.far (hne := NB0_139.out)) | exact HI0.out)⟩, ⟨by repeat (first | (with_reducible first | exact HK.out | apply KeepBut.set_ | apply keep_drewN | apply keep_drew | apply keep_alloc | refine keep_far ?_ GW138.out _ | refine keep_far ?_ GW139.out _) | exact HK.out)⟩, ⟨by repeat (first | (with_reducible first | exact HB.out | apply below_alloc | apply pw_below_drewN | apply below_drew1 | refine below_set ?_ (IsS76.ge HI0.out) | refine below_set ?_ GE138.out | refine below_set ?_ GE139.out) | exact HB.out)⟩⟩
             case rest =>
              clear HC49
              try clear c1
              try clear c2
              try clear p2
              try clear c3
              try clear p3
              try clear qb3
              try clear hx3
              try clear c4
              try clear p4
              try clear qb4
              try clear hx4
              try clear c5
              try clear p5
              try clear qb5
              try clear hx5
              try clear c6
              try clear p6
              try clear c8
              try clear c8b0
              try clear c8b1
              try clear c11
              try clear c15
              try clear c15b0
              try clear c15b1
              try clear c16
              try clear c17
              try clear c19
              try clear c20
              try clear c24
              try clear c26
              try clear c27
              try clear c29
              try clear c32
              try clear c32b0
              try clear c32b1
              try clear c36
              try clear c36b0
              try clear c37
              try clear c37b0
              try clear c38
              try clear c38b0
              try clear p39
              try clear qb39
              try clear hx39
              try clear c40
              try clear c40b0
              try clear c40b1
              try clear c42
              try clear c42b0
              try clear p43
              try clear qb43
              try clear hx43
              try clear c44
              try clear c44b0
              try clear c44b1
              try clear c48
              try clear c50
              try clear c52
              try clear c52b0
              try clear c53
              try clear c53b0
              try clear p54
              try clear qb54
              try clear hx54
              try clear c55
              try clear c55b0
              try clear c55b1
              try clear c57
              try clear c57b0
              try clear c64
              try clear c64b0
              try clear p64
              try clear hcz14_0
              try clear hcz14_1
              try clear hcz14_2
              try clear hcz14_3
              try clear hcz14_4
              try clear hcz21_0
              try clear hcz21_1
              try clear hcz21_2
              try clear hcz21_3
              try clear hcz23_0
              try clear hcz23_1
              try clear hcz23_2
              try clear hcz23_3
              try clear hcz25_0
              try clear hcz25_1
              try clear hcz25_2
              try clear hcz25_3
              try clear hcz28_0
              try clear hcz28_1
              try clear hcz28_2
              try clear hcz28_3
              try clear hcz30_0
              try clear hcz30_1
              try clear hcz30_2
              try clear hcz30_3
              try clear hcz45_0
              try clear hcz45_1
              try clear hcz45_2
              try clear hcz45_3
              try clear hcz45_4
              try clear hcz46_0
              try clear hcz46_1
              try clear hcz46_2
              try clear hcz46_3
              try clear hcz46_4
              try clear hcz47_0
              try clear hcz47_1
              try clear hcz47_2
              try clear hcz47_3
              try clear hcz47_4
              try clear hcz48_0
              try clear hcz48_1
              try clear hcz48_2
              try clear hcz48_3
              try clear hcz48_4
              try clear hcz59_0
              try clear hcz59_1
              try clear hcz59_2
              try clear hcz59_3
              try clear hcz59_4
              try clear hcz5_0
              try clear hcz5_1
              try clear hcz5_2
              try clear hcz5_3
              try clear hcz5_4
              try clear hcz62_0
              try clear hcz62_1
              try clear hcz62_2
              try clear hcz62_3
              try clear hcz62_4
              try clear hcz66_0
              try clear hcz66_1
              try clear hcz66_2
              try clear hcz66_3
              try clear hcz66_4
              try clear hcz68_0
              try clear hcz68_1
              try clear hcz68_2
              try clear hcz68_3
              try clear hcz68_4
              try clear hcz9_0
              try clear hcz9_1
              try clear hcz9_2
              try clear hcz9_3
              try clear hcz9_4
              try clear hfz14_0
              try clear hfz14_1
              try clear hfz14_2
              try clear hfz14_3
              try clear hfz14_4
              try clear hfz21_0
              try clear hfz21_1
              try clear hfz21_2
              try clear hfz21_3
              try clear hfz23_0
              try clear hfz23_1
              try clear hfz23_2
              try clear hfz23_3
              try clear hfz25_0
              try clear hfz25_1
              try clear hfz25_2
              try clear hfz25_3
              try clear hfz28_0
              try clear hfz28_1
              try clear hfz28_2
              try clear hfz28_3
              try clear hfz30_0
              try clear hfz30_1
              try clear hfz30_2
              try clear hfz30_3
              try clear hfz45_0
              try clear hfz45_1
              try clear hfz45_2
              try clear hfz45_3
              try clear hfz45_4
              try clear hfz46_0
              try clear hfz46_1
              try clear hfz46_2
              try clear hfz46_3
              try clear hfz46_4
              try clear hfz47_0
              try clear hfz47_1
              try clear hfz47_2
              try clear hfz47_3
              try clear hfz47_4
              try clear hfz48_0
              try clear hfz48_1
              try clear hfz48_2
              try clear hfz48_3
              try clear hfz48_4
              try clear hfz59_0
              try clear hfz59_1
              try clear hfz59_2
              try clear hfz59_3
              try clear hfz59_4
              try clear hfz5_0
              try clear hfz5_1
              try clear hfz5_2
              try clear hfz5_3
              try clear hfz5_4
              try clear hfz62_0
              try clear hfz62_1
              try clear hfz62_2
              try clear hfz62_3
              try clear hfz62_4
              try clear hfz66_0
              try clear hfz66_1
              try clear hfz66_2
              try clear hfz66_3
              try clear hfz66_4
              try clear hfz68_0
              try clear hfz68_1
              try clear hfz68_2
              try clear hfz68_3
              try clear hfz68_4
              try clear hfz9_0
              try clear hfz9_1
              try clear hfz9_2
              try clear hfz9_3
              try clear hfz9_4
              try clear p2
              try clear p3
              try clear p39
              try clear p4
              try clear p43
              try clear p54
              try clear p6
              try clear qb3
              try clear qb39
              try clear qb4
              try clear qb43
              try clear qb54
              obtain ⟨kq, x11_48, x1000_48, x1001_48, x1002_48, x1003_48, x1004_48, rfl, HA, HJ48, BK138, BK139, HI0, HK, HB⟩ := hcut
              cases kq with
              | zero => exact absurd HA.out (by simp [regex_reader_set.j5])
              | succ kj48 =>
               have H := HA.out
               clear HA
               simp only [regex_reader_set.j5] at H
               have H' := Aside0.mk H
               clear H
               go_wp2
               repeat (go_quiet (fail); try go_wp2)
               go_loopg [12] kj48 (fun kq v12 w' => ∃ (x12_7 : Int) (x140000_7 : Int) (x140001_7 : Int) (x140002_7 : Int) (x140003_7 : Int), v12 = .int .i64 x12_7 ∧ Aside0 (regex_reader_set.l1 kq (wrap64 (s0_1 - 1)) x7_2 x11_48 x12_7 x1000_48 x1001_48 x1002_48 x1003_48 x1004_48 x140000_7 x140001_7 x140002_7 x140003_7 = some (r1, r2, r3, r4, r5, r6, r7, r8, r9)) ∧ Aside0 (kq ≤ kj48) ∧ Aside0 (w'.heap[gb138]? = some (.cells #[.int .u64 0, .int .u64 0, .int .u64 0, .int .u64 0] 49 (0, 0))) ∧ Aside0 (w'.heap[gb139]? = some (.cells #[.int .u64 x140000_7, .int .u64 x140001_7, .int .u64 x140002_7, .int .u64 x140003_7] 49 (0, 0))) ∧ Aside0 (IsS76 w0 w' g x1000_48 x1001_48 x1002_48 x1003_48 x1004_48) ∧ Aside0 (KeepBut w w' g none) ∧ Aside0 (Below w0.heap.size w0 w'))
               case atStart => exact ⟨(wrap64 (x9_30)), (x140000_2), (x140001_2), (x140002_2), (x140003_2), qb8, H', ⟨Nat.le_refl _⟩, ⟨by (with_reducible repeat (first | refine blk_drewN ?_ _ | refine blk_drew ?_ | refine blk_alloc ?_ _)); exact BK138.out⟩, ⟨by (with_reducible repeat (first | refine blk_drewN ?_ _ | refine blk_drew ?_ | refine blk_alloc ?_ _)); exact BK139.out⟩, ⟨by repeat (first | (with_reducible first | exact HI0.out | apply IsS76.alloc | apply IsS76.drewN | apply IsS76.drew | apply IsS76.set_0 | apply IsS76.set_1 | apply IsS76.set_2 | apply IsS76.set_3 | apply IsS76.set_4 | apply IsS76.far (hne := NB0_138.out) | apply IsS76.far (hne := NB0_139.out)) | exact HI0.out)⟩, ⟨by repeat (first | (with_reducible first | exact HK.out | apply KeepBut.set_ | apply keep_drewN | apply keep_drew | apply keep_alloc | refine keep_far ?_ GW138.out _ | refine keep_far ?_ GW139.out _) | exact HK.out)⟩, ⟨by repeat (first | (with_reducible first | exact HB.out | apply below_alloc | apply pw_below_drewN | apply below_drew1 | refine below_set ?_ (IsS76.ge HI0.out) | refine below_set ?_ GE138.out | refine below_set ?_ GE139.out) | exact HB.out)⟩⟩
               case round =>
                clear H'
                try clear c1
                try clear c2
                try clear p2
                try clear c3
                try clear p3
                try clear qb3
                try clear hx3
                try clear c4
                try clear p4
                try clear qb4
                try clear hx4
                try clear c5
                try clear p5
                try clear qb5
                try clear hx5
                try clear c6
                try clear p6
                try clear c8
                try clear c8b0
                try clear c8b1
                try clear c11
                try clear c15
                try clear c15b0
                try clear c15b1
                try clear c16
                try clear c17
                try clear c19
                try clear c20
                try clear c24
                try clear c26
                try clear c27
                try clear c29
                try clear c32
                try clear c32b0
                try clear c32b1
                try clear c36
                try clear c36b0
                try clear c37
                try clear c37b0
                try clear c38
                try clear c38b0
                try clear p39
                try clear qb39
                try clear hx39
                try clear c40
                try clear c40b0
                try clear c40b1
                try clear c42
                try clear c42b0
                try clear p43
                try clear qb43
                try clear hx43
                try clear c44
                try clear c44b0
                try clear c44b1
                try clear c48
                try clear c50
                try clear c52
                try clear c52b0
                try clear c53
                try clear c53b0
                try clear p54
                try clear qb54
                try clear hx54
                try clear c55
                try clear c55b0
                try clear c55b1
                try clear c57
                try clear c57b0
                try clear c64
                try clear c64b0
                try clear p64
                try clear hcz14_0
                try clear hcz14_1
                try clear hcz14_2
                try clear hcz14_3
                try clear hcz14_4
                try clear hcz21_0
                try clear hcz21_1
                try clear hcz21_2
                try clear hcz21_3
                try clear hcz23_0
                try clear hcz23_1
                try clear hcz23_2
                try clear hcz23_3
                try clear hcz25_0
                try clear hcz25_1
                try clear hcz25_2
                try clear hcz25_3
                try clear hcz28_0
                try clear hcz28_1
                try clear hcz28_2
                try clear hcz28_3
                try clear hcz30_0
                try clear hcz30_1
                try clear hcz30_2
                try clear hcz30_3
                try clear hcz45_0
                try clear hcz45_1
                try clear hcz45_2
                try clear hcz45_3
                try clear hcz45_4
                try clear hcz46_0
                try clear hcz46_1
                try clear hcz46_2
                try clear hcz46_3
                try clear hcz46_4
                try clear hcz47_0
                try clear hcz47_1
                try clear hcz47_2
                try clear hcz47_3
                try clear hcz47_4
                try clear hcz48_0
                try clear hcz48_1
                try clear hcz48_2
                try clear hcz48_3
                try clear hcz48_4
                try clear hcz59_0
                try clear hcz59_1
                try clear hcz59_2
                try clear hcz59_3
                try clear hcz59_4
                try clear hcz5_0
                try clear hcz5_1
                try clear hcz5_2
                try clear hcz5_3
                try clear hcz5_4
                try clear hcz62_0
                try clear hcz62_1
                try clear hcz62_2
                try clear hcz62_3
                try clear hcz62_4
                try clear hcz66_0
                try clear hcz66_1
                try clear hcz66_2
                try clear hcz66_3
                try clear hcz66_4
                try clear hcz68_0
                try clear hcz68_1
                try clear hcz68_2
                try clear hcz68_3
                try clear hcz68_4
                try clear hcz9_0
                try clear hcz9_1
                try clear hcz9_2
                try clear hcz9_3
                try clear hcz9_4
                try clear hfz14_0
                try clear hfz14_1
                try clear hfz14_2
                try clear hfz14_3
                try clear hfz14_4
                try clear hfz21_0
                try clear hfz21_1
                try clear hfz21_2
                try clear hfz21_3
                try clear hfz23_0
                try clear hfz23_1
                try clear hfz23_2
                try clear hfz23_3
                try clear hfz25_0
                try clear hfz25_1
                try clear hfz25_2
                try clear hfz25_3
                try clear hfz28_0
                try clear hfz28_1
                try clear hfz28_2
                try clear hfz28_3
                try clear hfz30_0
                try clear hfz30_1
                try clear hfz30_2
                try clear hfz30_3
                try clear hfz45_0
                try clear hfz45_1
                try clear hfz45_2
                try clear hfz45_3
                try clear hfz45_4
                try clear hfz46_0
                try clear hfz46_1
                try clear hfz46_2
                try clear hfz46_3
                try clear hfz46_4
                try clear hfz47_0
                try clear hfz47_1
                try clear hfz47_2
                try clear hfz47_3
                try clear hfz47_4
                try clear hfz48_0
                try clear hfz48_1
                try clear hfz48_2
                try clear hfz48_3
                try clear hfz48_4
                try clear hfz59_0
                try clear hfz59_1
                try clear hfz59_2
                try clear hfz59_3
                try clear hfz59_4
                try clear hfz5_0
                try clear hfz5_1
                try clear hfz5_2
                try clear hfz5_3
                try clear hfz5_4
                try clear hfz62_0
                try clear hfz62_1
                try clear hfz62_2
                try clear hfz62_3
                try clear hfz62_4
                try clear hfz66_0
                try clear hfz66_1
                try clear hfz66_2
                try clear hfz66_3
                try clear hfz66_4
                try clear hfz68_0
                try clear hfz68_1
                try clear hfz68_2
                try clear hfz68_3
                try clear hfz68_4
                try clear hfz9_0
                try clear hfz9_1
                try clear hfz9_2
                try clear hfz9_3
                try clear hfz9_4
                try clear p2
                try clear p3
                try clear p39
                try clear p4
                try clear p43
                try clear p5
                try clear p54
                try clear p6
                try clear p64
                try clear qb3
                try clear qb39
                try clear qb4
                try clear qb43
                try clear qb5
                try clear qb54
                obtain ⟨x12_7, x140000_7, x140001_7, x140002_7, x140003_7, rfl, HA, HK7, BK138, BK139, HI0, HK, HB⟩ := hrel
                cases gk with
                | zero => exact absurd HA.out (by simp [regex_reader_set.l1])
                | succ k7 =>
                 have H := HA.out
                 clear HA
                 simp only [regex_reader_set.l1] at H
                 by_cases c69 : x12_7 ≤ (wrap64 (x11_48))
                 ·rw [if_pos c69] at H
                  have c69b0 : decide (x12_7 ≤ (wrap64 (x11_48))) = true := decide_eq_true c69
                  clear c69
                  replace H := Option.bind_eq_some_iff.mp H
                  obtain ⟨⟨t189, t190, t191, t192⟩, A700, H⟩ := H
                  replace H : (regex_reader_set.l1 k7 (wrap64 (s0_1 - 1)) x7_2 x11_48 (wrap64 (x12_7 + 1)) x1000_48 x1001_48 x1002_48 x1003_48 x1004_48 t189 t190 t191 t192) = some (r1, r2, r3, r4, r5, r6, r7, r8, r9) := H
                  have A70 := Aside0.mk A700
                  clear A700
                  have H' := Aside0.mk H
                  clear H
                  have hnb71 := NB139_138.out
                  have hnc71 := NB138_139.out
                  have hnb72 := NB139_0.out
                  have hnc72 := NB0_139.out
                  have hcz73_0 : wr.cell? ⟨gb139, 0, none⟩ = some (.int .u64 x140000_7) := (blk_cell BK139.out 0).trans rfl
                  have hcz73_1 : wr.cell? ⟨gb139, 1, none⟩ = some (.int .u64 x140001_7) := (blk_cell BK139.out 1).trans rfl
                  have hcz73_2 : wr.cell? ⟨gb139, 2, none⟩ = some (.int .u64 x140002_7) := (blk_cell BK139.out 2).trans rfl
                  have hcz73_3 : wr.cell? ⟨gb139, 3, none⟩ = some (.int .u64 x140003_7) := (blk_cell BK139.out 3).trans rfl
                  have hfz73_0 := blk_frozen BK139.out 0
                  have hfz73_1 := blk_frozen BK139.out 1
                  have hfz73_2 := blk_frozen BK139.out 2
                  have hfz73_3 := blk_frozen BK139.out 3
                  go_wp2_with (first | (go_at_call 51; (with_reducible refine (regex_Set_With.calls x140000_7 x140001_7 x140002_7 x140003_7 ((x12_7) % 256) t189 t190 t191 t192 _ ?side1 A70.out).mono ?_); (case side1 => exact TB.below hT qb2); rintro e w74 ⟨rfl, hb⟩; have n0_ := Aside0.mk (blk_below (g := gb138) (o := .cells #[.int .u64 0, .int .u64 0, .int .u64 0, .int .u64 0] 49 (0, 0)) qb1 hb); have n1_ := Aside0.mk (blk_below (g := gb139) (o := .cells #[.int .u64 x140000_7, .int .u64 x140001_7, .int .u64 x140002_7, .int .u64 x140003_7] 49 (0, 0)) qb3 hb); have n2_ := Aside0.mk (IsS76.below qb4 hb); have n3_ := Aside0.mk (KeepBut.trans qb0 (KeepBut.of_below hb g none) (.inl rfl)); have n4_ := Aside0.mk (below_step qb2 hb); clear BK138; clear BK139; clear HI0; clear HK; clear HB; have BK138 := n0_; have BK139 := n1_; have HI0 := n2_; have HK := n3_; have HB := n4_; clear n0_ n1_ n2_ n3_ n4_; (try clear hb); (try clear hb2); (try clear hk); (try clear hi); have hcz75_0 : w74.cell? ⟨gb139, 0, none⟩ = some (.int .u64 x140000_7) := (blk_cell BK139.out 0).trans rfl; have hcz75_1 : w74.cell? ⟨gb139, 1, none⟩ = some (.int .u64 x140001_7) := (blk_cell BK139.out 1).trans rfl; have hcz75_2 : w74.cell? ⟨gb139, 2, none⟩ = some (.int .u64 x140002_7) := (blk_cell BK139.out 2).trans rfl; have hcz75_3 : w74.cell? ⟨gb139, 3, none⟩ = some (.int .u64 x140003_7) := (blk_cell BK139.out 3).trans rfl; have hfz75_0 := blk_frozen BK139.out 0; have hfz75_1 := blk_frozen BK139.out 1; have hfz75_2 := blk_frozen BK139.out 2; have hfz75_3 := blk_frozen BK139.out 3))
                  repeat (go_quiet (first | (go_at_call 51; (with_reducible refine (regex_Set_With.calls x140000_7 x140001_7 x140002_7 x140003_7 ((x12_7) % 256) t189 t190 t191 t192 _ ?side1 A70.out).mono ?_); (case side1 => exact TB.below hT qb2); rintro e w74 ⟨rfl, hb⟩; have n0_ := Aside0.mk (blk_below (g := gb138) (o := .cells #[.int .u64 0, .int .u64 0, .int .u64 0, .int .u64 0] 49 (0, 0)) qb1 hb); have n1_ := Aside0.mk (blk_below (g := gb139) (o := .cells #[.int .u64 x140000_7, .int .u64 x140001_7, .int .u64 x140002_7, .int .u64 x140003_7] 49 (0, 0)) qb3 hb); have n2_ := Aside0.mk (IsS76.below qb4 hb); have n3_ := Aside0.mk (KeepBut.trans qb0 (KeepBut.of_below hb g none) (.inl rfl)); have n4_ := Aside0.mk (below_step qb2 hb); clear BK138; clear BK139; clear HI0; clear HK; clear HB; have BK138 := n0_; have BK139 := n1_; have HI0 := n2_; have HK := n3_; have HB := n4_; clear n0_ n1_ n2_ n3_ n4_; (try clear hb); (try clear hb2); (try clear hk); (try clear hi); have hcz75_0 : w74.cell? ⟨gb139, 0, none⟩ = some (.int .u64 x140000_7) := (blk_cell BK139.out 0).trans rfl; have hcz75_1 : w74.cell? ⟨gb139, 1, none⟩ = some (.int .u64 x140001_7) := (blk_cell BK139.out 1).trans rfl; have hcz75_2 : w74.cell? ⟨gb139, 2, none⟩ = some (.int .u64 x140002_7) := (blk_cell BK139.out 2).trans rfl; have hcz75_3 : w74.cell? ⟨gb139, 3, none⟩ = some (.int .u64 x140003_7) := (blk_cell BK139.out 3).trans rfl; have hfz75_0 := blk_frozen BK139.out 0; have hfz75_1 := blk_frozen BK139.out 1; have hfz75_2 := blk_frozen BK139.out 2; have hfz75_3 := blk_frozen BK139.out 3)); try go_wp2_with (first | (go_at_call 51; (with_reducible refine (regex_Set_With.calls x140000_7 x140001_7 x140002_7 x140003_7 ((x12_7) % 256) t189 t190 t191 t192 _ ?side1 A70.out).mono ?_); (case side1 => exact TB.below hT qb2); rintro e w74 ⟨rfl, hb⟩; have n0_ := Aside0.mk (blk_below (g := gb138) (o := .cells #[.int .u64 0, .int .u64 0, .int .u64 0, .int .u64 0] 49 (0, 0)) qb1 hb); have n1_ := Aside0.mk (blk_below (g := gb139) (o := .cells #[.int .u64 x140000_7, .int .u64 x140001_7, .int .u64 x140002_7, .int .u64 x140003_7] 49 (0, 0)) qb3 hb); have n2_ := Aside0.mk (IsS76.below qb4 hb); have n3_ := Aside0.mk (KeepBut.trans qb0 (KeepBut.of_below hb g none) (.inl rfl)); have n4_ := Aside0.mk (below_step qb2 hb); clear BK138; clear BK139; clear HI0; clear HK; clear HB; have BK138 := n0_; have BK139 := n1_; have HI0 := n2_; have HK := n3_; have HB := n4_; clear n0_ n1_ n2_ n3_ n4_; (try clear hb); (try clear hb2); (try clear hk); (try clear hi); have hcz75_0 : w74.cell? ⟨gb139, 0, none⟩ = some (.int .u64 x140000_7) := (blk_cell BK139.out 0).trans rfl; have hcz75_1 : w74.cell? ⟨gb139, 1, none⟩ = some (.int .u64 x140001_7) := (blk_cell BK139.out 1).trans rfl; have hcz75_2 : w74.cell? ⟨gb139, 2, none⟩ = some (.int .u64 x140002_7) := (blk_cell BK139.out 2).trans rfl; have hcz75_3 : w74.cell? ⟨gb139, 3, none⟩ = some (.int .u64 x140003_7) := (blk_cell BK139.out 3).trans rfl; have hfz75_0 := blk_frozen BK139.out 0; have hfz75_1 := blk_frozen BK139.out 1; have hfz75_2 := blk_frozen BK139.out 2; have hfz75_3 := blk_frozen BK139.out 3)))
                  go_roundg k7
                  case measure => have := HJ2.out; have := HK2.out; have := HJ11.out; have := HJ30.out; have := HJ34.out; have := HJ48.out; have := HK7.out; omega
                  case rel => exact ⟨(wrap64 (x12_7 + 1)), (t189), (t190), (t191), (t192), qb8, H', ⟨by have := HJ2.out; have := HK2.out; have := HJ11.out; have := HJ30.out; have := HJ34.out; have := HJ48.out; have := HK7.out; omega⟩, ⟨by (with_reducible repeat (first | refine blk_drewN ?_ _ | refine blk_drew ?_ | refine blk_alloc ?_ _)); refine blk_far ?_ NB138_139.out _; (with_reducible repeat (first | refine blk_drewN ?_ _ | refine blk_drew ?_ | refine blk_alloc ?_ _)); refine blk_far ?_ NB138_139.out _; (with_reducible repeat (first | refine blk_drewN ?_ _ | refine blk_drew ?_ | refine blk_alloc ?_ _)); refine blk_far ?_ NB138_139.out _; (with_reducible repeat (first | refine blk_drewN ?_ _ | refine blk_drew ?_ | refine blk_alloc ?_ _)); refine blk_far ?_ NB138_139.out _; (with_reducible repeat (first | refine blk_drewN ?_ _ | refine blk_drew ?_ | refine blk_alloc ?_ _)); exact BK138.out⟩, ⟨by (with_reducible repeat (first | refine blk_drewN ?_ _ | refine blk_drew ?_ | refine blk_alloc ?_ _)); refine blk_put (cs := #[.int .u64 t189, .int .u64 t190, .int .u64 t191, .int .u64 x140003_7]) ?_ 3 _ rfl; (with_reducible repeat (first | refine blk_drewN ?_ _ | refine blk_drew ?_ | refine blk_alloc ?_ _)); refine blk_put (cs := #[.int .u64 t189, .int .u64 t190, .int .u64 x140002_7, .int .u64 x140003_7]) ?_ 2 _ rfl; (with_reducible repeat (first | refine blk_drewN ?_ _ | refine blk_drew ?_ | refine blk_alloc ?_ _)); refine blk_put (cs := #[.int .u64 t189, .int .u64 x140001_7, .int .u64 x140002_7, .int .u64 x140003_7]) ?_ 1 _ rfl; (with_reducible repeat (first | refine blk_drewN ?_ _ | refine blk_drew ?_ | refine blk_alloc ?_ _)); refine blk_put (cs := #[.int .u64 x140000_7, .int .u64 x140001_7, .int .u64 x140002_7, .int .u64 x140003_7]) ?_ 0 _ rfl; (with_reducible repeat (first | refine blk_drewN ?_ _ | refine blk_drew ?_ | refine blk_alloc ?_ _)); exact BK139.out⟩, ⟨by repeat (first | (with_reducible first | exact HI0.out | apply IsS76.alloc | apply IsS76.drewN | apply IsS76.drew | apply IsS76.set_0 | apply IsS76.set_1 | apply IsS76.set_2 | apply IsS76.set_3 | apply IsS76.set_4 | apply IsS76.far (hne := NB0_138.out) | apply IsS76.far (hne := NB0_139.out)) | exact HI0.out)⟩, ⟨by repeat (first | (with_reducible first | exact HK.out | apply KeepBut.set_ | apply keep_drewN | apply keep_drew | apply keep_alloc | refine keep_far ?_ GW138.out _ | refine keep_far ?_ GW139.out _) | exact HK.out)⟩, ⟨by repeat (first | (with_reducible first | exact HB.out | apply below_alloc | apply pw_below_drewN | apply below_drew1 | refine below_set ?_ (IsS76.ge HI0.out) | refine below_set ?_ GE138.out | refine below_set ?_ GE139.out) | exact HB.out)⟩⟩
                 ·rw [if_neg c69] at H
                  have c69b0 : decide (x12_7 ≤ (wrap64 (x11_48))) = false := decide_eq_false c69
                  clear c69
                  have H' := Aside0.mk H
                  clear H
                  go_wp2
                  repeat (go_quiet (fail); try go_wp2)
                  go_roundg k7
                  case measure => have := HJ2.out; have := HK2.out; have := HJ11.out; have := HJ30.out; have := HJ34.out; have := HJ48.out; have := HK7.out; omega
                  case rel => exact ⟨(false), (x1000_48), (x1001_48), (x1002_48), (x1003_48), (x1004_48), (x140000_7), (x140001_7), (x140002_7), (x140003_7), qb8, H', ⟨by have := HJ2.out; have := HK2.out; have := HJ11.out; have := HJ30.out; have := HJ34.out; have := HJ48.out; have := HK7.out; omega⟩, ⟨by (with_reducible repeat (first | refine blk_drewN ?_ _ | refine blk_drew ?_ | refine blk_alloc ?_ _)); exact BK138.out⟩, ⟨by (with_reducible repeat (first | refine blk_drewN ?_ _ | refine blk_drew ?_ | refine blk_alloc ?_ _)); exact BK139.out⟩, ⟨by repeat (first | (with_reducible first | exact HI0.out | apply IsS76.alloc | apply IsS76.drewN | apply IsS76.drew | apply IsS76.set_0 | apply IsS76.set_1 | apply IsS76.set_2 | apply IsS76.set_3 | apply IsS76.set_4 | apply IsS76.far (hne := NB0_138.out) | apply IsS76.far (hne := NB0_139.out)) | exact HI0.out)⟩, ⟨by repeat (first | (with_reducible first | exact HK.out | apply KeepBut.set_ | apply keep_drewN | apply keep_drew | apply keep_alloc | refine keep_far ?_ GW138.out _ | refine keep_far ?_ GW139.out _) | exact HK.out)⟩, ⟨by repeat (first | (with_reducible first | exact HB.out | apply below_alloc | apply pw_below_drewN | apply below_drew1 | refine below_set ?_ (IsS76.ge HI0.out) | refine below_set ?_ GE138.out | refine below_set ?_ GE139.out) | exact HB.out)⟩⟩
     ·replace c11 := Bool.eq_false_iff.mpr c11
      subst c11
      have H1 : ((regex_reader_fail.f t149 t150 t151 t152 t153 (wrap64 (s0_1 - 1)) 9).bind fun bt154 => (if x7_2 = true then ((regex_Set_Not.f x140000_2 x140001_2 x140002_2 x140003_2).bind fun bt159 => (some (bt159.1, bt159.2.1, bt159.2.2.1, bt159.2.2.2, bt154.1, bt154.2.1, bt154.2.2.1, bt154.2.2.2.1, bt154.2.2.2.2))) else (some (x140000_2, x140001_2, x140002_2, x140003_2, bt154.1, bt154.2.1, bt154.2.2.1, bt154.2.2.2.1, bt154.2.2.2.2)))) = some (r1, r2, r3, r4, r5, r6, r7, r8, r9) := by rw [if_neg (show ¬ (false = true) by decide)] at H; exact H
      clear H
      have H := H1
      clear H1
      replace H := Option.bind_eq_some_iff.mp H
      obtain ⟨⟨t154, t155, t156, t157, t158⟩, A760, H⟩ := H
      replace H : (if x7_2 = true then ((regex_Set_Not.f x140000_2 x140001_2 x140002_2 x140003_2).bind fun bt159 => (some (bt159.1, bt159.2.1, bt159.2.2.1, bt159.2.2.2, t154, t155, t156, t157, t158))) else (some (x140000_2, x140001_2, x140002_2, x140003_2, t154, t155, t156, t157, t158))) = some (r1, r2, r3, r4, r5, r6, r7, r8, r9) := H
      have A76 := Aside0.mk A760
      clear A760
      by_cases c77 : x7_2 = true
      ·subst c77
       have H1 : ((regex_Set_Not.f x140000_2 x140001_2 x140002_2 x140003_2).bind fun bt159 => (some (bt159.1, bt159.2.1, bt159.2.2.1, bt159.2.2.2, t154, t155, t156, t157, t158))) = some (r1, r2, r3, r4, r5, r6, r7, r8, r9) := by rw [if_pos rfl] at H; exact H
       clear H
       have H := H1
       clear H1
       replace H := Option.bind_eq_some_iff.mp H
       obtain ⟨⟨t159, t160, t161, t162⟩, A780, H⟩ := H
       replace H : (some (t159, t160, t161, t162, t154, t155, t156, t157, t158)) = some (r1, r2, r3, r4, r5, r6, r7, r8, r9) := H
       have A78 := Aside0.mk A780
       clear A780
       simp only [Option.some.injEq, Prod.mk.injEq] at H
       obtain ⟨rfl, rfl, rfl, rfl, rfl, rfl, rfl, rfl, rfl⟩ := H
       go_wp2_with (first | (go_at_call 36; (with_reducible refine (regex_reader_next.calls g x1000_2 x1001_2 x1002_2 x1003_2 x1004_2 t147 false t149 t150 t151 t152 t153 w0 _ ?side1 ?side2 ?side3 A10.out).mono ?_); (case side1 => repeat (first | (with_reducible first | exact HI0.out | apply IsS76.alloc | apply IsS76.drewN | apply IsS76.drew | apply IsS76.set_0 | apply IsS76.set_1 | apply IsS76.set_2 | apply IsS76.set_3 | apply IsS76.set_4 | apply IsS76.far (hne := NB0_138.out) | apply IsS76.far (hne := NB0_139.out)) | exact HI0.out)); (case side2 => repeat (first | (with_reducible first | exact HB.out | apply below_alloc | apply pw_below_drewN | apply below_drew1 | refine below_set ?_ (IsS76.ge HI0.out) | refine below_set ?_ GE138.out | refine below_set ?_ GE139.out) | exact HB.out)); (case side3 => exact hT); rintro e w79 ⟨rfl, hi, hb, hk⟩; have n0_ := Aside0.mk (KeepBut.blk hk (g' := gb138) (o := .cells #[.int .u64 0, .int .u64 0, .int .u64 0, .int .u64 0] 49 (0, 0)) qb1 NB138_0.out (by simp)); have n1_ := Aside0.mk (KeepBut.blk hk (g' := gb139) (o := .cells #[.int .u64 x140000_2, .int .u64 x140001_2, .int .u64 x140002_2, .int .u64 x140003_2] 49 (0, 0)) qb3 NB139_0.out (by simp)); have n2_ := Aside0.mk (KeepBut.trans qb0 hk (.inl rfl)); have n3_ := Aside0.mk (hb); have n4_ := Aside0.mk (hi); clear BK138; clear BK139; clear HK; clear HB; clear HI0; have BK138 := n0_; have BK139 := n1_; have HK := n2_; have HB := n3_; have HI0 := n4_; clear n0_ n1_ n2_ n3_ n4_; (try clear hb); (try clear hb2); (try clear hk); (try clear hi)) | (go_at_call 41; (with_reducible refine (regex_reader_fail.calls g t149 t150 t151 t152 t153 (wrap64 (s0_1 - 1)) 9 t154 t155 t156 t157 t158 w0 _ ?side1 ?side2 ?side3 A76.out).mono ?_); (case side1 => repeat (first | (with_reducible first | exact HI0.out | apply IsS76.alloc | apply IsS76.drewN | apply IsS76.drew | apply IsS76.set_0 | apply IsS76.set_1 | apply IsS76.set_2 | apply IsS76.set_3 | apply IsS76.set_4 | apply IsS76.far (hne := NB0_138.out) | apply IsS76.far (hne := NB0_139.out)) | exact HI0.out)); (case side2 => repeat (first | (with_reducible first | exact HB.out | apply below_alloc | apply pw_below_drewN | apply below_drew1 | refine below_set ?_ (IsS76.ge HI0.out) | refine below_set ?_ GE138.out | refine below_set ?_ GE139.out) | exact HB.out)); (case side3 => exact hT); rintro e w80 ⟨rfl, hi, hb, hk⟩; have n0_ := Aside0.mk (KeepBut.blk hk (g' := gb138) (o := .cells #[.int .u64 0, .int .u64 0, .int .u64 0, .int .u64 0] 49 (0, 0)) qb1 NB138_0.out (by simp)); have n1_ := Aside0.mk (KeepBut.blk hk (g' := gb139) (o := .cells #[.int .u64 x140000_2, .int .u64 x140001_2, .int .u64 x140002_2, .int .u64 x140003_2] 49 (0, 0)) qb3 NB139_0.out (by simp)); have n2_ := Aside0.mk (KeepBut.trans qb0 hk (.inl rfl)); have n3_ := Aside0.mk (hb); have n4_ := Aside0.mk (hi); clear BK138; clear BK139; clear HK; clear HB; clear HI0; have BK138 := n0_; have BK139 := n1_; have HK := n2_; have HB := n3_; have HI0 := n4_; clear n0_ n1_ n2_ n3_ n4_; (try clear hb); (try clear hb2); (try clear hk); (try clear hi); have hnb81 := NB139_138.out; have hnc81 := NB138_139.out; have hnb82 := NB139_0.out; have hnc82 := NB0_139.out; have hcz83_0 : w80.cell? ⟨gb139, 0, none⟩ = some (.int .u64 x140000_2) := (blk_cell BK139.out 0).trans rfl; have hcz83_1 : w80.cell? ⟨gb139, 1, none⟩ = some (.int .u64 x140001_2) := (blk_cell BK139.out 1).trans rfl; have hcz83_2 : w80.cell? ⟨gb139, 2, none⟩ = some (.int .u64 x140002_2) := (blk_cell BK139.out 2).trans rfl; have hcz83_3 : w80.cell? ⟨gb139, 3, none⟩ = some (.int .u64 x140003_2) := (blk_cell BK139.out 3).trans rfl; have hfz83_0 := blk_frozen BK139.out 0; have hfz83_1 := blk_frozen BK139.out 1; have hfz83_2 := blk_frozen BK139.out 2; have hfz83_3 := blk_frozen BK139.out 3) | (go_at_call 49; (with_reducible refine (regex_Set_Not.calls x140000_2 x140001_2 x140002_2 x140003_2 t159 t160 t161 t162 _ ?side1 A78.out).mono ?_); (case side1 => exact TB.below hT qb2); rintro e w84 ⟨rfl, hb⟩; have n0_ := Aside0.mk (blk_below (g := gb138) (o := .cells #[.int .u64 0, .int .u64 0, .int .u64 0, .int .u64 0] 49 (0, 0)) qb1 hb); have n1_ := Aside0.mk (blk_below (g := gb139) (o := .cells #[.int .u64 x140000_2, .int .u64 x140001_2, .int .u64 x140002_2, .int .u64 x140003_2] 49 (0, 0)) qb3 hb); have n2_ := Aside0.mk (IsS76.below qb4 hb); have n3_ := Aside0.mk (KeepBut.trans qb0 (KeepBut.of_below hb g none) (.inl rfl)); have n4_ := Aside0.mk (below_step qb2 hb); clear BK138; clear BK139; clear HI0; clear HK; clear HB; have BK138 := n0_; have BK139 := n1_; have HI0 := n2_; have HK := n3_; have HB := n4_; clear n0_ n1_ n2_ n3_ n4_; (try clear hb); (try clear hb2); (try clear hk); (try clear hi); have hcz85_0 : w84.cell? ⟨gb139, 0, none⟩ = some (.int .u64 x140000_2) := (blk_cell BK139.out 0).trans rfl; have hcz85_1 : w84.cell? ⟨gb139, 1, none⟩ = some (.int .u64 x140001_2) := (blk_cell BK139.out 1).trans rfl; have hcz85_2 : w84.cell? ⟨gb139, 2, none⟩ = some (.int .u64 x140002_2) := (blk_cell BK139.out 2).trans rfl; have hcz85_3 : w84.cell? ⟨gb139, 3, none⟩ = some (.int .u64 x140003_2) := (blk_cell BK139.out 3).trans rfl; have hfz85_0 := blk_frozen BK139.out 0; have hfz85_1 := blk_frozen BK139.out 1; have hfz85_2 := blk_frozen BK139.out 2; have hfz85_3 := blk_frozen BK139.out 3; have hnb86 := NB138_0.out; have hnc86 := NB0_138.out; have hcz87_0 : w84.cell? ⟨gb138, 0, none⟩ = some (.int .u64 0) := (blk_cell BK138.out 0).trans rfl; have hcz87_1 : w84.cell? ⟨gb138, 1, none⟩ = some (.int .u64 0) := (blk_cell BK138.out 1).trans rfl; have hcz87_2 : w84.cell? ⟨gb138, 2, none⟩ = some (.int .u64 0) := (blk_cell BK138.out 2).trans rfl; have hcz87_3 : w84.cell? ⟨gb138, 3, none⟩ = some (.int .u64 0) := (blk_cell BK138.out 3).trans rfl; have hfz87_0 := blk_frozen BK138.out 0; have hfz87_1 := blk_frozen BK138.out 1; have hfz87_2 := blk_frozen BK138.out 2; have hfz87_3 := blk_frozen BK138.out 3))
       repeat (go_quiet (first | (go_at_call 36; (with_reducible refine (regex_reader_next.calls g x1000_2 x1001_2 x1002_2 x1003_2 x1004_2 t147 false t149 t150 t151 t152 t153 w0 _ ?side1 ?side2 ?side3 A10.out).mono ?_); (case side1 => repeat (first | (with_reducible first | exact HI0.out | apply IsS76.alloc | apply IsS76.drewN | apply IsS76.drew | apply IsS76.set_0 | apply IsS76.set_1 | apply IsS76.set_2 | apply IsS76.set_3 | apply IsS76.set_4 | apply IsS76.far (hne := NB0_138.out) | apply IsS76.far (hne := NB0_139.out)) | exact HI0.out)); (case side2 => repeat (first | (with_reducible first | exact HB.out | apply below_alloc | apply pw_below_drewN | apply below_drew1 | refine below_set ?_ (IsS76.ge HI0.out) | refine below_set ?_ GE138.out | refine below_set ?_ GE139.out) | exact HB.out)); (case side3 => exact hT); rintro e w79 ⟨rfl, hi, hb, hk⟩; have n0_ := Aside0.mk (KeepBut.blk hk (g' := gb138) (o := .cells #[.int .u64 0, .int .u64 0, .int .u64 0, .int .u64 0] 49 (0, 0)) qb1 NB138_0.out (by simp)); have n1_ := Aside0.mk (KeepBut.blk hk (g' := gb139) (o := .cells #[.int .u64 x140000_2, .int .u64 x140001_2, .int .u64 x140002_2, .int .u64 x140003_2] 49 (0, 0)) qb3 NB139_0.out (by simp)); have n2_ := Aside0.mk (KeepBut.trans qb0 hk (.inl rfl)); have n3_ := Aside0.mk (hb); have n4_ := Aside0.mk (hi); clear BK138; clear BK139; clear HK; clear HB; clear HI0; have BK138 := n0_; have BK139 := n1_; have HK := n2_; have HB := n3_; have HI0 := n4_; clear n0_ n1_ n2_ n3_ n4_; (try clear hb); (try clear hb2); (try clear hk); (try clear hi)) | (go_at_call 41; (with_reducible refine (regex_reader_fail.calls g t149 t150 t151 t152 t153 (wrap64 (s0_1 - 1)) 9 t154 t155 t156 t157 t158 w0 _ ?side1 ?side2 ?side3 A76.out).mono ?_); (case side1 => repeat (first | (with_reducible first | exact HI0.out | apply IsS76.alloc | apply IsS76.drewN | apply IsS76.drew | apply IsS76.set_0 | apply IsS76.set_1 | apply IsS76.set_2 | apply IsS76.set_3 | apply IsS76.set_4 | apply IsS76.far (hne := NB0_138.out) | apply IsS76.far (hne := NB0_139.out)) | exact HI0.out)); (case side2 => repeat (first | (with_reducible first | exact HB.out | apply below_alloc | apply pw_below_drewN | apply below_drew1 | refine below_set ?_ (IsS76.ge HI0.out) | refine below_set ?_ GE138.out | refine below_set ?_ GE139.out) | exact HB.out)); (case side3 => exact hT); rintro e w80 ⟨rfl, hi, hb, hk⟩; have n0_ := Aside0.mk (KeepBut.blk hk (g' := gb138) (o := .cells #[.int .u64 0, .int .u64 0, .int .u64 0, .int .u64 0] 49 (0, 0)) qb1 NB138_0.out (by simp)); have n1_ := Aside0.mk (KeepBut.blk hk (g' := gb139) (o := .cells #[.int .u64 x140000_2, .int .u64 x140001_2, .int .u64 x140002_2, .int .u64 x140003_2] 49 (0, 0)) qb3 NB139_0.out (by simp)); have n2_ := Aside0.mk (KeepBut.trans qb0 hk (.inl rfl)); have n3_ := Aside0.mk (hb); have n4_ := Aside0.mk (hi); clear BK138; clear BK139; clear HK; clear HB; clear HI0; have BK138 := n0_; have BK139 := n1_; have HK := n2_; have HB := n3_; have HI0 := n4_; clear n0_ n1_ n2_ n3_ n4_; (try clear hb); (try clear hb2); (try clear hk); (try clear hi); have hnb81 := NB139_138.out; have hnc81 := NB138_139.out; have hnb82 := NB139_0.out; have hnc82 := NB0_139.out; have hcz83_0 : w80.cell? ⟨gb139, 0, none⟩ = some (.int .u64 x140000_2) := (blk_cell BK139.out 0).trans rfl; have hcz83_1 : w80.cell? ⟨gb139, 1, none⟩ = some (.int .u64 x140001_2) := (blk_cell BK139.out 1).trans rfl; have hcz83_2 : w80.cell? ⟨gb139, 2, none⟩ = some (.int .u64 x140002_2) := (blk_cell BK139.out 2).trans rfl; have hcz83_3 : w80.cell? ⟨gb139, 3, none⟩ = some (.int .u64 x140003_2) := (blk_cell BK139.out 3).trans rfl; have hfz83_0 := blk_frozen BK139.out 0; have hfz83_1 := blk_frozen BK139.out 1; have hfz83_2 := blk_frozen BK139.out 2; have hfz83_3 := blk_frozen BK139.out 3) | (go_at_call 49; (with_reducible refine (regex_Set_Not.calls x140000_2 x140001_2 x140002_2 x140003_2 t159 t160 t161 t162 _ ?side1 A78.out).mono ?_); (case side1 => exact TB.below hT qb2); rintro e w84 ⟨rfl, hb⟩; have n0_ := Aside0.mk (blk_below (g := gb138) (o := .cells #[.int .u64 0, .int .u64 0, .int .u64 0, .int .u64 0] 49 (0, 0)) qb1 hb); have n1_ := Aside0.mk (blk_below (g := gb139) (o := .cells #[.int .u64 x140000_2, .int .u64 x140001_2, .int .u64 x140002_2, .int .u64 x140003_2] 49 (0, 0)) qb3 hb); have n2_ := Aside0.mk (IsS76.below qb4 hb); have n3_ := Aside0.mk (KeepBut.trans qb0 (KeepBut.of_below hb g none) (.inl rfl)); have n4_ := Aside0.mk (below_step qb2 hb); clear BK138; clear BK139; clear HI0; clear HK; clear HB; have BK138 := n0_; have BK139 := n1_; have HI0 := n2_; have HK := n3_; have HB := n4_; clear n0_ n1_ n2_ n3_ n4_; (try clear hb); (try clear hb2); (try clear hk); (try clear hi); have hcz85_0 : w84.cell? ⟨gb139, 0, none⟩ = some (.int .u64 x140000_2) := (blk_cell BK139.out 0).trans rfl; have hcz85_1 : w84.cell? ⟨gb139, 1, none⟩ = some (.int .u64 x140001_2) := (blk_cell BK139.out 1).trans rfl; have hcz85_2 : w84.cell? ⟨gb139, 2, none⟩ = some (.int .u64 x140002_2) := (blk_cell BK139.out 2).trans rfl; have hcz85_3 : w84.cell? ⟨gb139, 3, none⟩ = some (.int .u64 x140003_2) := (blk_cell BK139.out 3).trans rfl; have hfz85_0 := blk_frozen BK139.out 0; have hfz85_1 := blk_frozen BK139.out 1; have hfz85_2 := blk_frozen BK139.out 2; have hfz85_3 := blk_frozen BK139.out 3; have hnb86 := NB138_0.out; have hnc86 := NB0_138.out; have hcz87_0 : w84.cell? ⟨gb138, 0, none⟩ = some (.int .u64 0) := (blk_cell BK138.out 0).trans rfl; have hcz87_1 : w84.cell? ⟨gb138, 1, none⟩ = some (.int .u64 0) := (blk_cell BK138.out 1).trans rfl; have hcz87_2 : w84.cell? ⟨gb138, 2, none⟩ = some (.int .u64 0) := (blk_cell BK138.out 2).trans rfl; have hcz87_3 : w84.cell? ⟨gb138, 3, none⟩ = some (.int .u64 0) := (blk_cell BK138.out 3).trans rfl; have hfz87_0 := blk_frozen BK138.out 0; have hfz87_1 := blk_frozen BK138.out 1; have hfz87_2 := blk_frozen BK138.out 2; have hfz87_3 := blk_frozen BK138.out 3)); try go_wp2_with (first | (go_at_call 36; (with_reducible refine (regex_reader_next.calls g x1000_2 x1001_2 x1002_2 x1003_2 x1004_2 t147 false t149 t150 t151 t152 t153 w0 _ ?side1 ?side2 ?side3 A10.out).mono ?_); (case side1 => repeat (first | (with_reducible first | exact HI0.out | apply IsS76.alloc | apply IsS76.drewN | apply IsS76.drew | apply IsS76.set_0 | apply IsS76.set_1 | apply IsS76.set_2 | apply IsS76.set_3 | apply IsS76.set_4 | apply IsS76.far (hne := NB0_138.out) | apply IsS76.far (hne := NB0_139.out)) | exact HI0.out)); (case side2 => repeat (first | (with_reducible first | exact HB.out | apply below_alloc | apply pw_below_drewN | apply below_drew1 | refine below_set ?_ (IsS76.ge HI0.out) | refine below_set ?_ GE138.out | refine below_set ?_ GE139.out) | exact HB.out)); (case side3 => exact hT); rintro e w79 ⟨rfl, hi, hb, hk⟩; have n0_ := Aside0.mk (KeepBut.blk hk (g' := gb138) (o := .cells #[.int .u64 0, .int .u64 0, .int .u64 0, .int .u64 0] 49 (0, 0)) qb1 NB138_0.out (by simp)); have n1_ := Aside0.mk (KeepBut.blk hk (g' := gb139) (o := .cells #[.int .u64 x140000_2, .int .u64 x140001_2, .int .u64 x140002_2, .int .u64 x140003_2] 49 (0, 0)) qb3 NB139_0.out (by simp)); have n2_ := Aside0.mk (KeepBut.trans qb0 hk (.inl rfl)); have n3_ := Aside0.mk (hb); have n4_ := Aside0.mk (hi); clear BK138; clear BK139; clear HK; clear HB; clear HI0; have BK138 := n0_; have BK139 := n1_; have HK := n2_; have HB := n3_; have HI0 := n4_; clear n0_ n1_ n2_ n3_ n4_; (try clear hb); (try clear hb2); (try clear hk); (try clear hi)) | (go_at_call 41; (with_reducible refine (regex_reader_fail.calls g t149 t150 t151 t152 t153 (wrap64 (s0_1 - 1)) 9 t154 t155 t156 t157 t158 w0 _ ?side1 ?side2 ?side3 A76.out).mono ?_); (case side1 => repeat (first | (with_reducible first | exact HI0.out | apply IsS76.alloc | apply IsS76.drewN | apply IsS76.drew | apply IsS76.set_0 | apply IsS76.set_1 | apply IsS76.set_2 | apply IsS76.set_3 | apply IsS76.set_4 | apply IsS76.far (hne := NB0_138.out) | apply IsS76.far (hne := NB0_139.out)) | exact HI0.out)); (case side2 => repeat (first | (with_reducible first | exact HB.out | apply below_alloc | apply pw_below_drewN | apply below_drew1 | refine below_set ?_ (IsS76.ge HI0.out) | refine below_set ?_ GE138.out | refine below_set ?_ GE139.out) | exact HB.out)); (case side3 => exact hT); rintro e w80 ⟨rfl, hi, hb, hk⟩; have n0_ := Aside0.mk (KeepBut.blk hk (g' := gb138) (o := .cells #[.int .u64 0, .int .u64 0, .int .u64 0, .int .u64 0] 49 (0, 0)) qb1 NB138_0.out (by simp)); have n1_ := Aside0.mk (KeepBut.blk hk (g' := gb139) (o := .cells #[.int .u64 x140000_2, .int .u64 x140001_2, .int .u64 x140002_2, .int .u64 x140003_2] 49 (0, 0)) qb3 NB139_0.out (by simp)); have n2_ := Aside0.mk (KeepBut.trans qb0 hk (.inl rfl)); have n3_ := Aside0.mk (hb); have n4_ := Aside0.mk (hi); clear BK138; clear BK139; clear HK; clear HB; clear HI0; have BK138 := n0_; have BK139 := n1_; have HK := n2_; have HB := n3_; have HI0 := n4_; clear n0_ n1_ n2_ n3_ n4_; (try clear hb); (try clear hb2); (try clear hk); (try clear hi); have hnb81 := NB139_138.out; have hnc81 := NB138_139.out; have hnb82 := NB139_0.out; have hnc82 := NB0_139.out; have hcz83_0 : w80.cell? ⟨gb139, 0, none⟩ = some (.int .u64 x140000_2) := (blk_cell BK139.out 0).trans rfl; have hcz83_1 : w80.cell? ⟨gb139, 1, none⟩ = some (.int .u64 x140001_2) := (blk_cell BK139.out 1).trans rfl; have hcz83_2 : w80.cell? ⟨gb139, 2, none⟩ = some (.int .u64 x140002_2) := (blk_cell BK139.out 2).trans rfl; have hcz83_3 : w80.cell? ⟨gb139, 3, none⟩ = some (.int .u64 x140003_2) := (blk_cell BK139.out 3).trans rfl; have hfz83_0 := blk_frozen BK139.out 0; have hfz83_1 := blk_frozen BK139.out 1; have hfz83_2 := blk_frozen BK139.out 2; have hfz83_3 := blk_frozen BK139.out 3) | (go_at_call 49; (with_reducible refine (regex_Set_Not.calls x140000_2 x140001_2 x140002_2 x140003_2 t159 t160 t161 t162 _ ?side1 A78.out).mono ?_); (case side1 => exact TB.below hT qb2); rintro e w84 ⟨rfl, hb⟩; have n0_ := Aside0.mk (blk_below (g := gb138) (o := .cells #[.int .u64 0, .int .u64 0, .int .u64 0, .int .u64 0] 49 (0, 0)) qb1 hb); have n1_ := Aside0.mk (blk_below (g := gb139) (o := .cells #[.int .u64 x140000_2, .int .u64 x140001_2, .int .u64 x140002_2, .int .u64 x140003_2] 49 (0, 0)) qb3 hb); have n2_ := Aside0.mk (IsS76.below qb4 hb); have n3_ := Aside0.mk (KeepBut.trans qb0 (KeepBut.of_below hb g none) (.inl rfl)); have n4_ := Aside0.mk (below_step qb2 hb); clear BK138; clear BK139; clear HI0; clear HK; clear HB; have BK138 := n0_; have BK139 := n1_; have HI0 := n2_; have HK := n3_; have HB := n4_; clear n0_ n1_ n2_ n3_ n4_; (try clear hb); (try clear hb2); (try clear hk); (try clear hi); have hcz85_0 : w84.cell? ⟨gb139, 0, none⟩ = some (.int .u64 x140000_2) := (blk_cell BK139.out 0).trans rfl; have hcz85_1 : w84.cell? ⟨gb139, 1, none⟩ = some (.int .u64 x140001_2) := (blk_cell BK139.out 1).trans rfl; have hcz85_2 : w84.cell? ⟨gb139, 2, none⟩ = some (.int .u64 x140002_2) := (blk_cell BK139.out 2).trans rfl; have hcz85_3 : w84.cell? ⟨gb139, 3, none⟩ = some (.int .u64 x140003_2) := (blk_cell BK139.out 3).trans rfl; have hfz85_0 := blk_frozen BK139.out 0; have hfz85_1 := blk_frozen BK139.out 1; have hfz85_2 := blk_frozen BK139.out 2; have hfz85_3 := blk_frozen BK139.out 3; have hnb86 := NB138_0.out; have hnc86 := NB0_138.out; have hcz87_0 : w84.cell? ⟨gb138, 0, none⟩ = some (.int .u64 0) := (blk_cell BK138.out 0).trans rfl; have hcz87_1 : w84.cell? ⟨gb138, 1, none⟩ = some (.int .u64 0) := (blk_cell BK138.out 1).trans rfl; have hcz87_2 : w84.cell? ⟨gb138, 2, none⟩ = some (.int .u64 0) := (blk_cell BK138.out 2).trans rfl; have hcz87_3 : w84.cell? ⟨gb138, 3, none⟩ = some (.int .u64 0) := (blk_cell BK138.out 3).trans rfl; have hfz87_0 := blk_frozen BK138.out 0; have hfz87_1 := blk_frozen BK138.out 1; have hfz87_2 := blk_frozen BK138.out 2; have hfz87_3 := blk_frozen BK138.out 3)))
       refine bodyPost_ret (results_cell_row rfl _ _ gb138 49 #[.int .u64 t159, .int .u64 t160, .int .u64 t161, .int .u64 t162] (0, 0) _ rfl (by (with_reducible repeat (first | refine blk_drewN ?_ _ | refine blk_drew ?_ | refine blk_alloc ?_ _)); refine blk_put (cs := #[.int .u64 t159, .int .u64 t160, .int .u64 t161, .int .u64 0]) ?_ 3 _ rfl; (with_reducible repeat (first | refine blk_drewN ?_ _ | refine blk_drew ?_ | refine blk_alloc ?_ _)); refine blk_put (cs := #[.int .u64 t159, .int .u64 t160, .int .u64 0, .int .u64 0]) ?_ 2 _ rfl; (with_reducible repeat (first | refine blk_drewN ?_ _ | refine blk_drew ?_ | refine blk_alloc ?_ _)); refine blk_put (cs := #[.int .u64 t159, .int .u64 0, .int .u64 0, .int .u64 0]) ?_ 1 _ rfl; (with_reducible repeat (first | refine blk_drewN ?_ _ | refine blk_drew ?_ | refine blk_alloc ?_ _)); refine blk_put (cs := #[.int .u64 0, .int .u64 0, .int .u64 0, .int .u64 0]) ?_ 0 _ rfl; (with_reducible repeat (first | refine blk_drewN ?_ _ | refine blk_drew ?_ | refine blk_alloc ?_ _)); refine blk_far ?_ NB138_139.out _; (with_reducible repeat (first | refine blk_drewN ?_ _ | refine blk_drew ?_ | refine blk_alloc ?_ _)); refine blk_far ?_ NB138_139.out _; (with_reducible repeat (first | refine blk_drewN ?_ _ | refine blk_drew ?_ | refine blk_alloc ?_ _)); refine blk_far ?_ NB138_139.out _; (with_reducible repeat (first | refine blk_drewN ?_ _ | refine blk_drew ?_ | refine blk_alloc ?_ _)); refine blk_far ?_ NB138_139.out _; (with_reducible repeat (first | refine blk_drewN ?_ _ | refine blk_drew ?_ | refine blk_alloc ?_ _)); exact BK138.out) Try.underlying49 rfl (by kernel_rfl)) rfl ?_
       exact ⟨by first | rfl | (simp [errW_none, errW_some] <;> rfl) | (simp [errW_none, errW_some] <;> first | rfl | exact isEmpty_bne _) | (simp [*, errW_none, errW_some] <;> rfl), by repeat (first | (with_reducible first | exact HI0.out | apply IsS76.alloc | apply IsS76.drewN | apply IsS76.drew | apply IsS76.set_0 | apply IsS76.set_1 | apply IsS76.set_2 | apply IsS76.set_3 | apply IsS76.set_4 | apply IsS76.far (hne := NB0_138.out) | apply IsS76.far (hne := NB0_139.out)) | exact HI0.out), by repeat (first | (with_reducible first | exact HB.out | apply below_alloc | apply pw_below_drewN | apply below_drew1 | refine below_set ?_ (IsS76.ge HI0.out) | refine below_set ?_ GE138.out | refine below_set ?_ GE139.out) | exact HB.out), by repeat (first | (with_reducible first | exact HK.out | apply KeepBut.set_ | apply keep_drewN | apply keep_drew | apply keep_alloc | refine keep_far ?_ GW138.out _ | refine keep_far ?_ GW139.out _) | exact HK.out)⟩
      ·replace c77 := Bool.eq_false_iff.mpr c77
       subst c77
       have H1 : (some (x140000_2, x140001_2, x140002_2, x140003_2, t154, t155, t156, t157, t158)) = some (r1, r2, r3, r4, r5, r6, r7, r8, r9) := by rw [if_neg (show ¬ (false = true) by decide)] at H; exact H
       clear H
       have H := H1
       clear H1
       simp only [Option.some.injEq, Prod.mk.injEq] at H
       obtain ⟨rfl, rfl, rfl, rfl, rfl, rfl, rfl, rfl, rfl⟩ := H
       go_wp2_with (first | (go_at_call 36; (with_reducible refine (regex_reader_next.calls g x1000_2 x1001_2 x1002_2 x1003_2 x1004_2 t147 false t149 t150 t151 t152 t153 w0 _ ?side1 ?side2 ?side3 A10.out).mono ?_); (case side1 => repeat (first | (with_reducible first | exact HI0.out | apply IsS76.alloc | apply IsS76.drewN | apply IsS76.drew | apply IsS76.set_0 | apply IsS76.set_1 | apply IsS76.set_2 | apply IsS76.set_3 | apply IsS76.set_4 | apply IsS76.far (hne := NB0_138.out) | apply IsS76.far (hne := NB0_139.out)) | exact HI0.out)); (case side2 => repeat (first | (with_reducible first | exact HB.out | apply below_alloc | apply pw_below_drewN | apply below_drew1 | refine below_set ?_ (IsS76.ge HI0.out) | refine below_set ?_ GE138.out | refine below_set ?_ GE139.out) | exact HB.out)); (case side3 => exact hT); rintro e w88 ⟨rfl, hi, hb, hk⟩; have n0_ := Aside0.mk (KeepBut.blk hk (g' := gb138) (o := .cells #[.int .u64 0, .int .u64 0, .int .u64 0, .int .u64 0] 49 (0, 0)) qb1 NB138_0.out (by simp)); have n1_ := Aside0.mk (KeepBut.blk hk (g' := gb139) (o := .cells #[.int .u64 x140000_2, .int .u64 x140001_2, .int .u64 x140002_2, .int .u64 x140003_2] 49 (0, 0)) qb3 NB139_0.out (by simp)); have n2_ := Aside0.mk (KeepBut.trans qb0 hk (.inl rfl)); have n3_ := Aside0.mk (hb); have n4_ := Aside0.mk (hi); clear BK138; clear BK139; clear HK; clear HB; clear HI0; have BK138 := n0_; have BK139 := n1_; have HK := n2_; have HB := n3_; have HI0 := n4_; clear n0_ n1_ n2_ n3_ n4_; (try clear hb); (try clear hb2); (try clear hk); (try clear hi)) | (go_at_call 41; (with_reducible refine (regex_reader_fail.calls g t149 t150 t151 t152 t153 (wrap64 (s0_1 - 1)) 9 t154 t155 t156 t157 t158 w0 _ ?side1 ?side2 ?side3 A76.out).mono ?_); (case side1 => repeat (first | (with_reducible first | exact HI0.out | apply IsS76.alloc | apply IsS76.drewN | apply IsS76.drew | apply IsS76.set_0 | apply IsS76.set_1 | apply IsS76.set_2 | apply IsS76.set_3 | apply IsS76.set_4 | apply IsS76.far (hne := NB0_138.out) | apply IsS76.far (hne := NB0_139.out)) | exact HI0.out)); (case side2 => repeat (first | (with_reducible first | exact HB.out | apply below_alloc | apply pw_below_drewN | apply below_drew1 | refine below_set ?_ (IsS76.ge HI0.out) | refine below_set ?_ GE138.out | refine below_set ?_ GE139.out) | exact HB.out)); (case side3 => exact hT); rintro e w89 ⟨rfl, hi, hb, hk⟩; have n0_ := Aside0.mk (KeepBut.blk hk (g' := gb138) (o := .cells #[.int .u64 0, .int .u64 0, .int .u64 0, .int .u64 0] 49 (0, 0)) qb1 NB138_0.out (by simp)); have n1_ := Aside0.mk (KeepBut.blk hk (g' := gb139) (o := .cells #[.int .u64 x140000_2, .int .u64 x140001_2, .int .u64 x140002_2, .int .u64 x140003_2] 49 (0, 0)) qb3 NB139_0.out (by simp)); have n2_ := Aside0.mk (KeepBut.trans qb0 hk (.inl rfl)); have n3_ := Aside0.mk (hb); have n4_ := Aside0.mk (hi); clear BK138; clear BK139; clear HK; clear HB; clear HI0; have BK138 := n0_; have BK139 := n1_; have HK := n2_; have HB := n3_; have HI0 := n4_; clear n0_ n1_ n2_ n3_ n4_; (try clear hb); (try clear hb2); (try clear hk); (try clear hi); have hnb90 := NB139_138.out; have hnc90 := NB138_139.out; have hnb91 := NB139_0.out; have hnc91 := NB0_139.out; have hcz92_0 : w89.cell? ⟨gb139, 0, none⟩ = some (.int .u64 x140000_2) := (blk_cell BK139.out 0).trans rfl; have hcz92_1 : w89.cell? ⟨gb139, 1, none⟩ = some (.int .u64 x140001_2) := (blk_cell BK139.out 1).trans rfl; have hcz92_2 : w89.cell? ⟨gb139, 2, none⟩ = some (.int .u64 x140002_2) := (blk_cell BK139.out 2).trans rfl; have hcz92_3 : w89.cell? ⟨gb139, 3, none⟩ = some (.int .u64 x140003_2) := (blk_cell BK139.out 3).trans rfl; have hfz92_0 := blk_frozen BK139.out 0; have hfz92_1 := blk_frozen BK139.out 1; have hfz92_2 := blk_frozen BK139.out 2; have hfz92_3 := blk_frozen BK139.out 3; have hnb93 := NB138_0.out; have hnc93 := NB0_138.out; have hcz94_0 : w89.cell? ⟨gb138, 0, none⟩ = some (.int .u64 0) := (blk_cell BK138.out 0).trans rfl; have hcz94_1 : w89.cell? ⟨gb138, 1, none⟩ = some (.int .u64 0) := (blk_cell BK138.out 1).trans rfl; have hcz94_2 : w89.cell? ⟨gb138, 2, none⟩ = some (.int .u64 0) := (blk_cell BK138.out 2).trans rfl; have hcz94_3 : w89.cell? ⟨gb138, 3, none⟩ = some (.int .u64 0) := (blk_cell BK138.out 3).trans rfl; have hfz94_0 := blk_frozen BK138.out 0; have hfz94_1 := blk_frozen BK138.out 1; have hfz94_2 := blk_frozen BK138.out 2; have hfz94_3 := blk_frozen BK138.out 3))
       repeat (go_quiet (first | (go_at_call 36; (with_reducible refine (regex_reader_next.calls g x1000_2 x1001_2 x1002_2 x1003_2 x1004_2 t147 false t149 t150 t151 t152 t153 w0 _ ?side1 ?side2 ?side3 A10.out).mono ?_); (case side1 => repeat (first | (with_reducible first | exact HI0.out | apply IsS76.alloc | apply IsS76.drewN | apply IsS76.drew | apply IsS76.set_0 | apply IsS76.set_1 | apply IsS76.set_2 | apply IsS76.set_3 | apply IsS76.set_4 | apply IsS76.far (hne := NB0_138.out) | apply IsS76.far (hne := NB0_139.out)) | exact HI0.out)); (case side2 => repeat (first | (with_reducible first | exact HB.out | apply below_alloc | apply pw_below_drewN | apply below_drew1 | refine below_set ?_ (IsS76.ge HI0.out) | refine below_set ?_ GE138.out | refine below_set ?_ GE139.out) | exact HB.out)); (case side3 => exact hT); rintro e w88 ⟨rfl, hi, hb, hk⟩; have n0_ := Aside0.mk (KeepBut.blk hk (g' := gb138) (o := .cells #[.int .u64 0, .int .u64 0, .int .u64 0, .int .u64 0] 49 (0, 0)) qb1 NB138_0.out (by simp)); have n1_ := Aside0.mk (KeepBut.blk hk (g' := gb139) (o := .cells #[.int .u64 x140000_2, .int .u64 x140001_2, .int .u64 x140002_2, .int .u64 x140003_2] 49 (0, 0)) qb3 NB139_0.out (by simp)); have n2_ := Aside0.mk (KeepBut.trans qb0 hk (.inl rfl)); have n3_ := Aside0.mk (hb); have n4_ := Aside0.mk (hi); clear BK138; clear BK139; clear HK; clear HB; clear HI0; have BK138 := n0_; have BK139 := n1_; have HK := n2_; have HB := n3_; have HI0 := n4_; clear n0_ n1_ n2_ n3_ n4_; (try clear hb); (try clear hb2); (try clear hk); (try clear hi)) | (go_at_call 41; (with_reducible refine (regex_reader_fail.calls g t149 t150 t151 t152 t153 (wrap64 (s0_1 - 1)) 9 t154 t155 t156 t157 t158 w0 _ ?side1 ?side2 ?side3 A76.out).mono ?_); (case side1 => repeat (first | (with_reducible first | exact HI0.out | apply IsS76.alloc | apply IsS76.drewN | apply IsS76.drew | apply IsS76.set_0 | apply IsS76.set_1 | apply IsS76.set_2 | apply IsS76.set_3 | apply IsS76.set_4 | apply IsS76.far (hne := NB0_138.out) | apply IsS76.far (hne := NB0_139.out)) | exact HI0.out)); (case side2 => repeat (first | (with_reducible first | exact HB.out | apply below_alloc | apply pw_below_drewN | apply below_drew1 | refine below_set ?_ (IsS76.ge HI0.out) | refine below_set ?_ GE138.out | refine below_set ?_ GE139.out) | exact HB.out)); (case side3 => exact hT); rintro e w89 ⟨rfl, hi, hb, hk⟩; have n0_ := Aside0.mk (KeepBut.blk hk (g' := gb138) (o := .cells #[.int .u64 0, .int .u64 0, .int .u64 0, .int .u64 0] 49 (0, 0)) qb1 NB138_0.out (by simp)); have n1_ := Aside0.mk (KeepBut.blk hk (g' := gb139) (o := .cells #[.int .u64 x140000_2, .int .u64 x140001_2, .int .u64 x140002_2, .int .u64 x140003_2] 49 (0, 0)) qb3 NB139_0.out (by simp)); have n2_ := Aside0.mk (KeepBut.trans qb0 hk (.inl rfl)); have n3_ := Aside0.mk (hb); have n4_ := Aside0.mk (hi); clear BK138; clear BK139; clear HK; clear HB; clear HI0; have BK138 := n0_; have BK139 := n1_; have HK := n2_; have HB := n3_; have HI0 := n4_; clear n0_ n1_ n2_ n3_ n4_; (try clear hb); (try clear hb2); (try clear hk); (try clear hi); have hnb90 := NB139_138.out; have hnc90 := NB138_139.out; have hnb91 := NB139_0.out; have hnc91 := NB0_139.out; have hcz92_0 : w89.cell? ⟨gb139, 0, none⟩ = some (.int .u64 x140000_2) := (blk_cell BK139.out 0).trans rfl; have hcz92_1 : w89.cell? ⟨gb139, 1, none⟩ = some (.int .u64 x140001_2) := (blk_cell BK139.out 1).trans rfl; have hcz92_2 : w89.cell? ⟨gb139, 2, none⟩ = some (.int .u64 x140002_2) := (blk_cell BK139.out 2).trans rfl; have hcz92_3 : w89.cell? ⟨gb139, 3, none⟩ = some (.int .u64 x140003_2) := (blk_cell BK139.out 3).trans rfl; have hfz92_0 := blk_frozen BK139.out 0; have hfz92_1 := blk_frozen BK139.out 1; have hfz92_2 := blk_frozen BK139.out 2; have hfz92_3 := blk_frozen BK139.out 3; have hnb93 := NB138_0.out; have hnc93 := NB0_138.out; have hcz94_0 : w89.cell? ⟨gb138, 0, none⟩ = some (.int .u64 0) := (blk_cell BK138.out 0).trans rfl; have hcz94_1 : w89.cell? ⟨gb138, 1, none⟩ = some (.int .u64 0) := (blk_cell BK138.out 1).trans rfl; have hcz94_2 : w89.cell? ⟨gb138, 2, none⟩ = some (.int .u64 0) := (blk_cell BK138.out 2).trans rfl; have hcz94_3 : w89.cell? ⟨gb138, 3, none⟩ = some (.int .u64 0) := (blk_cell BK138.out 3).trans rfl; have hfz94_0 := blk_frozen BK138.out 0; have hfz94_1 := blk_frozen BK138.out 1; have hfz94_2 := blk_frozen BK138.out 2; have hfz94_3 := blk_frozen BK138.out 3)); try go_wp2_with (first | (go_at_call 36; (with_reducible refine (regex_reader_next.calls g x1000_2 x1001_2 x1002_2 x1003_2 x1004_2 t147 false t149 t150 t151 t152 t153 w0 _ ?side1 ?side2 ?side3 A10.out).mono ?_); (case side1 => repeat (first | (with_reducible first | exact HI0.out | apply IsS76.alloc | apply IsS76.drewN | apply IsS76.drew | apply IsS76.set_0 | apply IsS76.set_1 | apply IsS76.set_2 | apply IsS76.set_3 | apply IsS76.set_4 | apply IsS76.far (hne := NB0_138.out) | apply IsS76.far (hne := NB0_139.out)) | exact HI0.out)); (case side2 => repeat (first | (with_reducible first | exact HB.out | apply below_alloc | apply pw_below_drewN | apply below_drew1 | refine below_set ?_ (IsS76.ge HI0.out) | refine below_set ?_ GE138.out | refine below_set ?_ GE139.out) | exact HB.out)); (case side3 => exact hT); rintro e w88 ⟨rfl, hi, hb, hk⟩; have n0_ := Aside0.mk (KeepBut.blk hk (g' := gb138) (o := .cells #[.int .u64 0, .int .u64 0, .int .u64 0, .int .u64 0] 49 (0, 0)) qb1 NB138_0.out (by simp)); have n1_ := Aside0.mk (KeepBut.blk hk (g' := gb139) (o := .cells #[.int .u64 x140000_2, .int .u64 x140001_2, .int .u64 x140002_2, .int .u64 x140003_2] 49 (0, 0)) qb3 NB139_0.out (by simp)); have n2_ := Aside0.mk (KeepBut.trans qb0 hk (.inl rfl)); have n3_ := Aside0.mk (hb); have n4_ := Aside0.mk (hi); clear BK138; clear BK139; clear HK; clear HB; clear HI0; have BK138 := n0_; have BK139 := n1_; have HK := n2_; have HB := n3_; have HI0 := n4_; clear n0_ n1_ n2_ n3_ n4_; (try clear hb); (try clear hb2); (try clear hk); (try clear hi)) | (go_at_call 41; (with_reducible refine (regex_reader_fail.calls g t149 t150 t151 t152 t153 (wrap64 (s0_1 - 1)) 9 t154 t155 t156 t157 t158 w0 _ ?side1 ?side2 ?side3 A76.out).mono ?_); (case side1 => repeat (first | (with_reducible first | exact HI0.out | apply IsS76.alloc | apply IsS76.drewN | apply IsS76.drew | apply IsS76.set_0 | apply IsS76.set_1 | apply IsS76.set_2 | apply IsS76.set_3 | apply IsS76.set_4 | apply IsS76.far (hne := NB0_138.out) | apply IsS76.far (hne := NB0_139.out)) | exact HI0.out)); (case side2 => repeat (first | (with_reducible first | exact HB.out | apply below_alloc | apply pw_below_drewN | apply below_drew1 | refine below_set ?_ (IsS76.ge HI0.out) | refine below_set ?_ GE138.out | refine below_set ?_ GE139.out) | exact HB.out)); (case side3 => exact hT); rintro e w89 ⟨rfl, hi, hb, hk⟩; have n0_ := Aside0.mk (KeepBut.blk hk (g' := gb138) (o := .cells #[.int .u64 0, .int .u64 0, .int .u64 0, .int .u64 0] 49 (0, 0)) qb1 NB138_0.out (by simp)); have n1_ := Aside0.mk (KeepBut.blk hk (g' := gb139) (o := .cells #[.int .u64 x140000_2, .int .u64 x140001_2, .int .u64 x140002_2, .int .u64 x140003_2] 49 (0, 0)) qb3 NB139_0.out (by simp)); have n2_ := Aside0.mk (KeepBut.trans qb0 hk (.inl rfl)); have n3_ := Aside0.mk (hb); have n4_ := Aside0.mk (hi); clear BK138; clear BK139; clear HK; clear HB; clear HI0; have BK138 := n0_; have BK139 := n1_; have HK := n2_; have HB := n3_; have HI0 := n4_; clear n0_ n1_ n2_ n3_ n4_; (try clear hb); (try clear hb2); (try clear hk); (try clear hi); have hnb90 := NB139_138.out; have hnc90 := NB138_139.out; have hnb91 := NB139_0.out; have hnc91 := NB0_139.out; have hcz92_0 : w89.cell? ⟨gb139, 0, none⟩ = some (.int .u64 x140000_2) := (blk_cell BK139.out 0).trans rfl; have hcz92_1 : w89.cell? ⟨gb139, 1, none⟩ = some (.int .u64 x140001_2) := (blk_cell BK139.out 1).trans rfl; have hcz92_2 : w89.cell? ⟨gb139, 2, none⟩ = some (.int .u64 x140002_2) := (blk_cell BK139.out 2).trans rfl; have hcz92_3 : w89.cell? ⟨gb139, 3, none⟩ = some (.int .u64 x140003_2) := (blk_cell BK139.out 3).trans rfl; have hfz92_0 := blk_frozen BK139.out 0; have hfz92_1 := blk_frozen BK139.out 1; have hfz92_2 := blk_frozen BK139.out 2; have hfz92_3 := blk_frozen BK139.out 3; have hnb93 := NB138_0.out; have hnc93 := NB0_138.out; have hcz94_0 : w89.cell? ⟨gb138, 0, none⟩ = some (.int .u64 0) := (blk_cell BK138.out 0).trans rfl; have hcz94_1 : w89.cell? ⟨gb138, 1, none⟩ = some (.int .u64 0) := (blk_cell BK138.out 1).trans rfl; have hcz94_2 : w89.cell? ⟨gb138, 2, none⟩ = some (.int .u64 0) := (blk_cell BK138.out 2).trans rfl; have hcz94_3 : w89.cell? ⟨gb138, 3, none⟩ = some (.int .u64 0) := (blk_cell BK138.out 3).trans rfl; have hfz94_0 := blk_frozen BK138.out 0; have hfz94_1 := blk_frozen BK138.out 1; have hfz94_2 := blk_frozen BK138.out 2; have hfz94_3 := blk_frozen BK138.out 3)))
       refine bodyPost_ret (results_cell_row rfl _ _ gb138 49 #[.int .u64 x140000_2, .int .u64 x140001_2, .int .u64 x140002_2, .int .u64 x140003_2] (0, 0) _ rfl qb10 Try.underlying49 rfl (by kernel_rfl)) rfl ?_
       exact ⟨by first | rfl | (simp [errW_none, errW_some] <;> rfl) | (simp [errW_none, errW_some] <;> first | rfl | exact isEmpty_bne _) | (simp [*, errW_none, errW_some] <;> rfl), by repeat (first | (with_reducible first | exact HI0.out | apply IsS76.alloc | apply IsS76.drewN | apply IsS76.drew | apply IsS76.set_0 | apply IsS76.set_1 | apply IsS76.set_2 | apply IsS76.set_3 | apply IsS76.set_4 | apply IsS76.far (hne := NB0_138.out) | apply IsS76.far (hne := NB0_139.out)) | exact HI0.out), by repeat (first | (with_reducible first | exact HB.out | apply below_alloc | apply pw_below_drewN | apply below_drew1 | refine below_set ?_ (IsS76.ge HI0.out) | refine below_set ?_ GE138.out | refine below_set ?_ GE139.out) | exact HB.out), by repeat (first | (with_reducible first | exact HK.out | apply KeepBut.set_ | apply keep_drewN | apply keep_drew | apply keep_alloc | refine keep_far ?_ GW138.out _ | refine keep_far ?_ GW139.out _) | exact HK.out)⟩

end Go.Proofs.Ythlffghlkggimaa.Pr
