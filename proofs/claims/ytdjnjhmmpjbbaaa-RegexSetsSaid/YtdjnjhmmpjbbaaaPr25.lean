/- The machine's side, written by a patched print (wip/tools): each theorem says that a call of the Go function comes to what the Lean function beside it computes, where the tables are laid (TB). -/
import Derived.Test.YtdjnjhmmpjbbaaaPuRxW
import Derived.Test.YtdjnjhmmpjbbaaaPr0
namespace Go.Proofs.Ytdjnjhmmpjbbaaa.Pr
open Go.RowKit Go.Proofs.YtdjnjhmmpjbbaaaW.PrintWords Go.Proofs.YtdjnjhmmpjbbaaaW.PrintLast Go.Proofs.YtdjnjhmmpjbbaaaW.PrintMore
attribute [local go_sem] fld39_0 fld39_1 fld39_2 fld50_0 fld50_1 fld50_2 fld50_3 fld50_4 fld54_0 fld54_1 fld54_2 fld54_3 fld54_4 fld9000_0 fld9000_1 fld9000_2 fld9000_3 fld9000_4 binOp_string_gtr2 binOp_string_leq2 binOp_string_geq2 max2_int min2_int max_two min_two max_three min_three max_four min_four   -- for this text's walks alone
set_option linter.unusedVariables false
set_option linter.unusedSimpArgs false

/-! ### regex_Print: function 15 -/
mutual
def regex_Print.j0 : Nat → ByteArray → Int → Int → Int → Int → Int → List (S29) → Option (ByteArray)
 | 0, _, _, _, _, _, _, _ => none
 | k + 1, x3, x764000, x764001, x764002, x764003, x764004, x764005 => regex_Print.l0 k x3 x764005 (x764005.length : Int) 0
def regex_Print.l0 : Nat → ByteArray → List (S29) → Int → Int → Option (ByteArray)
 | 0, _, _, _, _ => none
 | k + 1, x3, x39, x40, x41 => if x41 < x40 then (if 0 ≤ x41 then (if x41 < (x39.length : Int) then ((regex_Print.f k ((rd_T29 x39 x41).f0) ((rd_T29 x39 x41).f1.f0) ((rd_T29 x39 x41).f1.f1) ((rd_T29 x39 x41).f1.f2) ((rd_T29 x39 x41).f1.f3) ((rd_T29 x39 x41).f2)).bind fun t770 => (if 1 + t770.size ≤ 9223372036854775807 then (if ((⟨#[40]⟩ : ByteArray) ++ t770).size + 1 ≤ 9223372036854775807 then (if x3.size + (((⟨#[40]⟩ : ByteArray) ++ t770) ++ (⟨#[41]⟩ : ByteArray)).size ≤ 9223372036854775807 then (regex_Print.l0 k (x3 ++ (((⟨#[40]⟩ : ByteArray) ++ t770) ++ (⟨#[41]⟩ : ByteArray))) x39 x40 (wrap64 (x41 + 1))) else (none)) else (none)) else (none))) else (none)) else (none)) else (some x3)
def regex_Print.f : Nat → Int → Int → Int → Int → Int → List (S29) → Option (ByteArray)
 | 0, _, _, _, _, _, _ => none
 | k + 1, a0_0, a0_1, a0_2, a0_3, a0_4, l0_5 => if 0 ≤ (mn (mx a0_0 0) 8) then (if (mn (mx a0_0 0) 8) < 9 then ((some (([bt (⟨#[101, 49, 38, 124, 42, 43, 63, 94, 36]⟩ : ByteArray) (mn (mx a0_0 0) 8)] : List Int) : List Int)).bind fun y764 => (if a0_0 = 1 then ((runtime_plainError_Error.f a0_1 a0_2 a0_3 a0_4).bind fun t767 => (if (strOfNums y764).size + t767.size ≤ 9223372036854775807 then (regex_Print.j0 k ((strOfNums y764) ++ t767) a0_0 a0_1 a0_2 a0_3 a0_4 l0_5) else (none))) else (regex_Print.j0 k (strOfNums y764) a0_0 a0_1 a0_2 a0_3 a0_4 l0_5))) else (none)) else (none)
end
theorem regex_Print.mono_l : ∀ k, (∀ y0 y1 y2 y3 y4 y5, LeO (regex_Print.f k y0 y1 y2 y3 y4 y5) (regex_Print.f (k + 1) y0 y1 y2 y3 y4 y5)) ∧ (∀ y0 y1 y2 y3 y4 y5 y6, LeO (regex_Print.j0 k y0 y1 y2 y3 y4 y5 y6) (regex_Print.j0 (k + 1) y0 y1 y2 y3 y4 y5 y6)) ∧ (∀ y0 y1 y2 y3, LeO (regex_Print.l0 k y0 y1 y2 y3) (regex_Print.l0 (k + 1) y0 y1 y2 y3))
 | 0 => ⟨fun _ _ _ _ _ _ r h => by simp [regex_Print.f] at h, fun _ _ _ _ _ _ _ r h => by simp [regex_Print.j0] at h, fun _ _ _ _ r h => by simp [regex_Print.l0] at h⟩
 | k + 1 => by
  obtain ⟨ih0, ih1, ih2⟩ := regex_Print.mono_l k
  refine ⟨?_, ?_, ?_⟩
  ·intro y0 y1 y2 y3 y4 y5
   unfold regex_Print.f
   repeat' first
   | (with_reducible exact ih0 _ _ _ _ _ _)
   | (with_reducible exact ih1 _ _ _ _ _ _ _)
   | (with_reducible exact ih2 _ _ _ _)
   | (with_reducible exact LeO.refl _)
   | (with_reducible exact LeO.none _)
   | (with_reducible refine LeO.ite ?_ ?_)
   | (with_reducible refine LeO.bind ?_ (fun _ => ?_))
   | exact ih0 _ _ _ _ _ _
   | exact ih1 _ _ _ _ _ _ _
   | exact ih2 _ _ _ _
   | exact LeO.none _
   | refine LeO.ite ?_ ?_
   | refine LeO.bind ?_ (fun _ => ?_)
  ·intro y0 y1 y2 y3 y4 y5 y6
   unfold regex_Print.j0
   repeat' first
   | (with_reducible exact ih0 _ _ _ _ _ _)
   | (with_reducible exact ih1 _ _ _ _ _ _ _)
   | (with_reducible exact ih2 _ _ _ _)
   | (with_reducible exact LeO.refl _)
   | (with_reducible exact LeO.none _)
   | (with_reducible refine LeO.ite ?_ ?_)
   | (with_reducible refine LeO.bind ?_ (fun _ => ?_))
   | exact ih0 _ _ _ _ _ _
   | exact ih1 _ _ _ _ _ _ _
   | exact ih2 _ _ _ _
   | exact LeO.none _
   | refine LeO.ite ?_ ?_
   | refine LeO.bind ?_ (fun _ => ?_)
  ·intro y0 y1 y2 y3
   unfold regex_Print.l0
   repeat' first
   | (with_reducible exact ih0 _ _ _ _ _ _)
   | (with_reducible exact ih1 _ _ _ _ _ _ _)
   | (with_reducible exact ih2 _ _ _ _)
   | (with_reducible exact LeO.refl _)
   | (with_reducible exact LeO.none _)
   | (with_reducible refine LeO.ite ?_ ?_)
   | (with_reducible refine LeO.bind ?_ (fun _ => ?_))
   | exact ih0 _ _ _ _ _ _
   | exact ih1 _ _ _ _ _ _ _
   | exact ih2 _ _ _ _
   | exact LeO.none _
   | refine LeO.ite ?_ ?_
   | refine LeO.bind ?_ (fun _ => ?_)
theorem regex_Print.mono : ∀ a0 a1 a2 a3 a4 a5 k, LeO (regex_Print.f k a0 a1 a2 a3 a4 a5) (regex_Print.f (k + 1) a0 a1 a2 a3 a4 a5) := by
 intro a0 a1 a2 a3 a4 a5 k
 obtain ⟨ih0, ih1, ih2⟩ := regex_Print.mono_l k
 exact ih0 a0 a1 a2 a3 a4 a5
set_option maxHeartbeats 8000000 in
set_option maxRecDepth 100000 in
theorem regex_Print.calls (k : Nat) : ∀ (a0_0 : Int) (a0_1 : Int) (a0_2 : Int) (a0_3 : Int) (a0_4 : Int) (A0_5 : Option Addr) (c0_5 : Nat) (l0_5 : List (S29)) (r : ByteArray) (w : World) (hr0_5 : Kd.C k29 w A0_5 l0_5.length l0_5) (hc0_5 : l0_5.length ≤ c0_5) (hT : TB w) (h : regex_Print.f k a0_0 a0_1 a0_2 a0_3 a0_4 l0_5 = some r),
  Calls Try.prog 15 #[.agg #[.int .i64 a0_0, .int .u64 a0_1, .int .u64 a0_2, .int .u64 a0_3, .int .u64 a0_4, .slice A0_5 l0_5.length c0_5]] w fun e w' => e = .returned (.string r) ∧ Below w.heap.size w w' := by
 induction k using Nat.strongRecOn with
 | _ k ih =>
 intro a0_0 a0_1 a0_2 a0_3 a0_4 A0_5 c0_5 l0_5 r w hr0_5 hc0_5 hT h
 cases k with
 | zero => exact absurd h (by simp [regex_Print.f])
 | succ k =>
 simp only [regex_Print.f] at h
 have hu29 := Try.underlying29
 have hu26 := Try.underlying26
 have HR0_5 := Aside0.mk hr0_5
 have HC0_5 := Aside0.mk hc0_5
 clear hr0_5 hc0_5
 have HB := Aside0.mk (Below.refl w.heap.size w)
 have H : (if 0 ≤ (mn (mx a0_0 0) 8) then (if (mn (mx a0_0 0) 8) < 9 then ((some (([bt (⟨#[101, 49, 38, 124, 42, 43, 63, 94, 36]⟩ : ByteArray) (mn (mx a0_0 0) 8)] : List Int) : List Int)).bind fun y764 => (if a0_0 = 1 then ((runtime_plainError_Error.f a0_1 a0_2 a0_3 a0_4).bind fun t767 => (if (strOfNums y764).size + t767.size ≤ 9223372036854775807 then (regex_Print.j0 k ((strOfNums y764) ++ t767) a0_0 a0_1 a0_2 a0_3 a0_4 l0_5) else (none))) else (regex_Print.j0 k (strOfNums y764) a0_0 a0_1 a0_2 a0_3 a0_4 l0_5))) else (none)) else (none)) = some r := h
 clear h
 obtain ⟨ji2, hji2⟩ : ∃ j_ : Int, (mx a0_0 0) = j_ := ⟨_, rfl⟩
 replace H : (if 0 ≤ (mn (ji2) 8) then (if (mn (ji2) 8) < 9 then ((some (([bt (⟨#[101, 49, 38, 124, 42, 43, 63, 94, 36]⟩ : ByteArray) (mn (ji2) 8)] : List Int) : List Int)).bind fun y764 => (if a0_0 = 1 then ((runtime_plainError_Error.f a0_1 a0_2 a0_3 a0_4).bind fun t767 => (if (strOfNums y764).size + t767.size ≤ 9223372036854775807 then (regex_Print.j0 k ((strOfNums y764) ++ t767) a0_0 a0_1 a0_2 a0_3 a0_4 l0_5) else (none))) else (regex_Print.j0 k (strOfNums y764) a0_0 a0_1 a0_2 a0_3 a0_4 l0_5))) else (none)) else (none)) = some r := by first | (rw [hji2] at H; exact H) | (simp only [hji2] at H ⊢; exact H)
 (try (have hji2l : 0 ≤ ji2 := by (rw [← hji2]; unfold mx; (repeat' split) <;> omega)))
 (try (have hji2m : 0 ≤ ji2 := by omega))
 have hji2_ : (if a0_0 < 0 then 0 else a0_0) = ji2 := hji2
 obtain ⟨ji3, hji3⟩ : ∃ j_ : Int, (mn (ji2) 8) = j_ := ⟨_, rfl⟩
 replace H : (if 0 ≤ (ji3) then (if (ji3) < 9 then ((some (([bt (⟨#[101, 49, 38, 124, 42, 43, 63, 94, 36]⟩ : ByteArray) (ji3)] : List Int) : List Int)).bind fun y764 => (if a0_0 = 1 then ((runtime_plainError_Error.f a0_1 a0_2 a0_3 a0_4).bind fun t767 => (if (strOfNums y764).size + t767.size ≤ 9223372036854775807 then (regex_Print.j0 k ((strOfNums y764) ++ t767) a0_0 a0_1 a0_2 a0_3 a0_4 l0_5) else (none))) else (regex_Print.j0 k (strOfNums y764) a0_0 a0_1 a0_2 a0_3 a0_4 l0_5))) else (none)) else (none)) = some r := by first | (rw [hji3] at H; exact H) | (simp only [hji3] at H ⊢; exact H)
 have hji3_ : (if 8 < (ji2) then 8 else (ji2)) = ji3 := hji3
 by_cases c4 : 0 ≤ (ji3)
 ·rw [if_pos c4] at H
  have c4b0 : decide (0 ≤ (ji3)) = true := decide_eq_true c4
  clear c4
  by_cases c5 : (ji3) < 9
  ·rw [if_pos c5] at H
   have c5b0 : decide ((ji3) < 9) = true := decide_eq_true c5
   clear c5
   obtain ⟨y764, hy764⟩ : ∃ y_ : List Int, y_ = (([bt (⟨#[101, 49, 38, 124, 42, 43, 63, 94, 36]⟩ : ByteArray) (ji3)] : List Int)) := ⟨_, rfl⟩
   replace H : (if a0_0 = 1 then ((runtime_plainError_Error.f a0_1 a0_2 a0_3 a0_4).bind fun t767 => (if (strOfNums y764).size + t767.size ≤ 9223372036854775807 then (regex_Print.j0 k ((strOfNums y764) ++ t767) a0_0 a0_1 a0_2 a0_3 a0_4 l0_5) else (none))) else (regex_Print.j0 k (strOfNums y764) a0_0 a0_1 a0_2 a0_3 a0_4 l0_5)) = some r := by first | (rw [hy764]; with_reducible exact H) | (have H2_ := (Option.bind_some _ _).symm.trans H; rw [hy764]; with_reducible exact H2_) | (have H2_ := (Option.bind_some _ _).symm.trans H; with_reducible exact H2_) | with_reducible exact H | (rw [hy764]; exact H) | exact H
   have Ny764 := Aside0.mk hy764
   clear hy764
   have HC7 := Aside0.mk H
   clear H
   go_enter Try.func15, Try.ntmps15
   go_upto_if 18 with (first | ((with_reducible refine gate_dst (N := 1) rfl ?_); refine box_event ?hg (N := 1) ?hd (cs := #[.int .i64 a0_0, .int .u64 a0_1, .int .u64 a0_2, .int .u64 a0_3, .int .u64 a0_4, .slice A0_5 l0_5.length c0_5]) (t := 29) ?hr ?_; (case hd => rfl); (case hg => rfl); (case hr => first | (go_simp; done) | (go_simp; rfl)); intro gb763 hg w8 hbox hb; have n0_ := Aside0.mk (below_step (by repeat (first | (with_reducible first | exact HB.out | apply below_alloc | apply pw_below_drewN | apply below_drew1) | exact HB.out)) hb); have n1_ := Aside0.mk (hbox); have n2_ := Aside0.mk ((by rw [hg]; exact (below_size (by repeat (first | (with_reducible first | exact HB.out | apply below_alloc | apply pw_below_drewN | apply below_drew1) | exact HB.out))) : w.heap.size ≤ gb763)); have n3_ := Aside0.mk ((by rw [hg]; exact (below_size (by repeat (first | (with_reducible first | exact HB.out | apply below_alloc | apply pw_below_drewN | apply below_drew1) | exact HB.out))) : w.heap.size ≤ gb763)); clear HB; have HB := n0_; have BK763 := n1_; have GW763 := n2_; have GE763 := n3_; clear n0_ n1_ n2_ n3_; clear hb hbox hg; have hcz9_0 : w8.cell? ⟨gb763, 0, none⟩ = some (.int .i64 a0_0) := (blk_cell BK763.out 0).trans rfl; have hcz9_1 : w8.cell? ⟨gb763, 1, none⟩ = some (.int .u64 a0_1) := (blk_cell BK763.out 1).trans rfl; have hcz9_2 : w8.cell? ⟨gb763, 2, none⟩ = some (.int .u64 a0_2) := (blk_cell BK763.out 2).trans rfl; have hcz9_3 : w8.cell? ⟨gb763, 3, none⟩ = some (.int .u64 a0_3) := (blk_cell BK763.out 3).trans rfl; have hcz9_4 : w8.cell? ⟨gb763, 4, none⟩ = some (.int .u64 a0_4) := (blk_cell BK763.out 4).trans rfl; have hcz9_5 : w8.cell? ⟨gb763, 5, none⟩ = some (.slice A0_5 l0_5.length c0_5) := (blk_cell BK763.out 5).trans rfl; have hfz9_0 := blk_frozen BK763.out 0; have hfz9_1 := blk_frozen BK763.out 1; have hfz9_2 := blk_frozen BK763.out 2; have hfz9_3 := blk_frozen BK763.out 3; have hfz9_4 := blk_frozen BK763.out 4; have hfz9_5 := blk_frozen BK763.out 5; have p6 : 0 ≤ ((ji3) : Int) := of_decide_eq_true (by first | (with_reducible assumption) | assumption); have q6 : (ji3) < (9 : Int) := of_decide_eq_true (by first | (with_reducible assumption) | assumption); have hx6 := bt_at (⟨#[101, 49, 38, 124, 42, 43, 63, 94, 36]⟩ : ByteArray) (ji3); replace p6 := eq_true p6; replace q6 := eq_true q6) | ((with_reducible refine gate_dst (N := 14) rfl ?_); refine Kd.R_lit (Kd.int .u8) _ 5 ?hg (N := 14) ?hd (xs := ([bt (⟨#[101, 49, 38, 124, 42, 43, 63, 94, 36]⟩ : ByteArray) (ji3)] : List Int)) (inner := [.int .u8 (bt (⟨#[101, 49, 38, 124, 42, 43, 63, 94, 36]⟩ : ByteArray) (ji3))]) (ok := fun _ => True) (okp := fun _ => True) ?hr ?hp (fun _ hk => hk) trivial (Below.refl _ _) (Nat.le_refl _) (by simp) ?_; (case hd => rfl); (case hg => rfl); (case hr => first | (go_simp; done) | (go_simp; rfl)); (case hp => exact (Reps.one (show Kd.M (Kd.int .u8) _ _ _ (bt (⟨#[101, 49, 38, 124, 42, 43, 63, 94, 36]⟩ : ByteArray) (ji3)) [.int .u8 (bt (⟨#[101, 49, 38, 124, 42, 43, 63, 94, 36]⟩ : ByteArray) (ji3))] from rfl) (Reps.none _ _))); intro v765 w10 ho11 hb hg_ hnew_; clear hg_ hnew_; (first | rw [← Ny764.out] at ho11 | (simp only [Int.reduceToNat] at ho11; rw [← Ny764.out] at ho11)); have n0_ := Aside0.mk (Kd.R_lower ho11 (below_size (by repeat (first | (with_reducible first | exact HB.out | apply below_alloc | apply pw_below_drewN | apply below_drew1 | refine below_set ?_ GE763.out) | exact HB.out)))); have n1_ := Aside0.mk (blk_below (g := gb763) (o := .cells #[.int .i64 a0_0, .int .u64 a0_1, .int .u64 a0_2, .int .u64 a0_3, .int .u64 a0_4, .slice A0_5 l0_5.length c0_5] 29 (0, 0)) (by (with_reducible repeat (first | refine blk_drewN ?_ _ | refine blk_drew ?_ | refine blk_alloc ?_ _)); exact BK763.out) hb); have n2_ := Aside0.mk (below_step (by repeat (first | (with_reducible first | exact HB.out | apply below_alloc | apply pw_below_drewN | apply below_drew1 | refine below_set ?_ GE763.out) | exact HB.out)) hb); clear BK763; clear HB; have HO766 := n0_; have BK763 := n1_; have HB := n2_; clear n0_ n1_ n2_; clear hb ho11; have hcv12 := own_string (P := Try.prog) Try.underlying23 Try.underlying5 Try.underlying9 (Kd.own_of_R HO766.out); have hcz13_0 : w10.cell? ⟨gb763, 0, none⟩ = some (.int .i64 a0_0) := (blk_cell BK763.out 0).trans rfl; have hcz13_1 : w10.cell? ⟨gb763, 1, none⟩ = some (.int .u64 a0_1) := (blk_cell BK763.out 1).trans rfl; have hcz13_2 : w10.cell? ⟨gb763, 2, none⟩ = some (.int .u64 a0_2) := (blk_cell BK763.out 2).trans rfl; have hcz13_3 : w10.cell? ⟨gb763, 3, none⟩ = some (.int .u64 a0_3) := (blk_cell BK763.out 3).trans rfl; have hcz13_4 : w10.cell? ⟨gb763, 4, none⟩ = some (.int .u64 a0_4) := (blk_cell BK763.out 4).trans rfl; have hcz13_5 : w10.cell? ⟨gb763, 5, none⟩ = some (.slice A0_5 l0_5.length c0_5) := (blk_cell BK763.out 5).trans rfl; have hfz13_0 := blk_frozen BK763.out 0; have hfz13_1 := blk_frozen BK763.out 1; have hfz13_2 := blk_frozen BK763.out 2; have hfz13_3 := blk_frozen BK763.out 3; have hfz13_4 := blk_frozen BK763.out 4; have hfz13_5 := blk_frozen BK763.out 5))
   (try simp only [Act.put, List.setIfInBounds_toArray, List.set_cons_zero, List.set_cons_succ])
   go_cut [3] (fun v3 wc => ∃ (kq : Nat) (x3_6 : ByteArray), v3 = .string x3_6 ∧ Aside0 (regex_Print.j0 kq x3_6 a0_0 a0_1 a0_2 a0_3 a0_4 l0_5 = some r) ∧ Aside0 (kq ≤ k) ∧ Aside0 (wc.heap[gb763]? = some (.cells #[.int .i64 a0_0, .int .u64 a0_1, .int .u64 a0_2, .int .u64 a0_3, .int .u64 a0_4, (.slice A0_5 l0_5.length c0_5)] 29 (0, 0))) ∧ Aside0 (Below w.heap.size w wc))
   case first =>
    have H := HC7.out
    clear HC7
    by_cases c14 : a0_0 = 1
    ·rw [if_pos c14] at H
     have c14b0 : (a0_0 == 1) = true := beq_iff_eq.mpr c14
     have c14b1 : (a0_0 != 1) = false := bne_eq_false_iff_eq.mpr c14
     clear c14
     (first | rw [c14b0] | (simp only [i64_w, i32_w]; rw [c14b0]) | skip)
     replace H := Option.bind_eq_some_iff.mp H
     obtain ⟨t767, A150, H⟩ := H
     replace H : (if (strOfNums y764).size + t767.size ≤ 9223372036854775807 then (regex_Print.j0 k ((strOfNums y764) ++ t767) a0_0 a0_1 a0_2 a0_3 a0_4 l0_5) else (none)) = some r := H
     have A15 := Aside0.mk A150
     clear A150
     by_cases c16 : (strOfNums y764).size + t767.size ≤ 9223372036854775807
     ·rw [if_pos c16] at H
      have c16b0 := eq_true c16
      have c16b1 : decide ((strOfNums y764).size + t767.size ≤ 9223372036854775807) = true := decide_eq_true c16
      try have c16b2 : (9223372036854775807 < (strOfNums y764).size + t767.size) = False := eq_false (Nat.not_lt.2 c16)
      try (have c16b3 := c16b2; simp only [ByteArray.size_append', ba_size_mk, List.size_toArray, List.length_cons, List.length_nil, Nat.zero_add, Nat.reduceAdd, ByteArray.size_extract, Nat.min_self, Nat.sub_zero] at c16b3)
      have H' := Aside0.mk H
      clear H
      have hcz17_0 : w10.cell? ⟨gb763, 0, none⟩ = some (.int .i64 a0_0) := (blk_cell BK763.out 0).trans rfl
      have hcz17_1 : w10.cell? ⟨gb763, 1, none⟩ = some (.int .u64 a0_1) := (blk_cell BK763.out 1).trans rfl
      have hcz17_2 : w10.cell? ⟨gb763, 2, none⟩ = some (.int .u64 a0_2) := (blk_cell BK763.out 2).trans rfl
      have hcz17_3 : w10.cell? ⟨gb763, 3, none⟩ = some (.int .u64 a0_3) := (blk_cell BK763.out 3).trans rfl
      have hcz17_4 : w10.cell? ⟨gb763, 4, none⟩ = some (.int .u64 a0_4) := (blk_cell BK763.out 4).trans rfl
      have hcz17_5 : w10.cell? ⟨gb763, 5, none⟩ = some (.slice A0_5 l0_5.length c0_5) := (blk_cell BK763.out 5).trans rfl
      have hfz17_0 := blk_frozen BK763.out 0
      have hfz17_1 := blk_frozen BK763.out 1
      have hfz17_2 := blk_frozen BK763.out 2
      have hfz17_3 := blk_frozen BK763.out 3
      have hfz17_4 := blk_frozen BK763.out 4
      have hfz17_5 := blk_frozen BK763.out 5
      have Hw := Lib.hid A15.out
      have hcv := @conv_one
      have i0 := @set_at0 a0_1 a0_2 a0_3 a0_4
      have i1 := @set_at1 a0_1 a0_2 a0_3 a0_4
      have i2 := @set_at2 a0_1 a0_2 a0_3 a0_4
      have i3 := @set_at3 a0_1 a0_2 a0_3 a0_4
      have hp0 := nthW_pos Hw.out
      go_wp2
      obtain ⟨pr_, hpr_⟩ : ∃ p_ : ByteArray, p_ = strOfNums y764 := ⟨_, rfl⟩
      rw [← hpr_]
      have hsz := c16
      rw [words_size Hw.out, ← hpr_] at hsz
      have Hpr := Lib.hid hpr_
      clear hpr_
      go_loopw [3, 21] (fun v i wr => ∃ kk : Nat, kk ≤ 4 ∧ i = .int .i64 (kk : Int) ∧ v = .string (pr_ ++ ⟨(wordsN a0_1 a0_2 a0_3 a0_4 kk).toArray⟩) ∧ Aside0 (Below w.heap.size w wr) ∧ Aside0 (wr.heap[gb763]? = some (.cells #[.int .i64 a0_0, .int .u64 a0_1, .int .u64 a0_2, .int .u64 a0_3, .int .u64 a0_4, .slice A0_5 l0_5.length c0_5] 29 (0, 0)))) (fun _ i _ => 4 - (intOf i).toNat)
      case atStart => exact ⟨0, by omega, rfl, by rw [words_0], HB, BK763⟩
      case round =>
       obtain ⟨kk, hkk, rfl, rfl, HB, BK763⟩ := hrel
       by_cases hk4 : kk < 4
       · have hnx := Lib.hid (words_round pr_ a0_1 a0_2 a0_3 a0_4 kk hk4)
         have hwd : ∃ l_ : List UInt8, l_ = wordsN a0_1 a0_2 a0_3 a0_4 kk := ⟨_, rfl⟩
         obtain ⟨l_, hl_⟩ := hwd
         rw [← hl_]
         have Hl := Lib.hid hl_
         have hui := set_at (a := a0_1) (b := a0_2) (c := a0_3) (d := a0_4) wr kk hk4
         have hu00 := hp0 kk
         have hu0 := hu00.1
         have hlen : l_.length = 16 * kk := by rw [hl_]; exact wordsN_len _ _ _ _ kk (by omega)
         obtain ⟨u_, hu_⟩ : ∃ u_ : Int, u_ = nthW a0_1 a0_2 a0_3 a0_4 kk := ⟨_, rfl⟩
         rw [← hu_] at hui hu0 hu00
         have Hlen := Lib.hid hlen
         have hkb : decide ((kk : Int) < (4 : Int)) = true := decide_eq_true (by omega)
         have Hu0 := Lib.hid hu00
         have Hu := Lib.hid hu_
         clear hl_ hu_ hp0 hlen hu00
         go_wp2
         obtain ⟨wo, hwo⟩ : ∃ wo : World, wo = wr := ⟨_, rfl⟩
         rw [← hwo]
         have Hwo := Lib.hid hwo
         clear hwo
         go_loopw [3, 6] (fun v i wr2 => ∃ j : Nat, j ≤ 16 ∧ i = .int .i64 (60 - 4 * (j : Int)) ∧ v = .string (pr_ ++ ⟨(l_ ++ wordN u_ j).toArray⟩) ∧ Aside0 (Below w.heap.size w wr2) ∧ Aside0 (wr2.heap[gb763]? = some (.cells #[.int .i64 a0_0, .int .u64 a0_1, .int .u64 a0_2, .int .u64 a0_3, .int .u64 a0_4, .slice A0_5 l0_5.length c0_5] 29 (0, 0)))) (fun _ i _ => (intOf i + 4).toNat)
         case atStart => exact ⟨0, by omega, rfl, by rw [show wordN u_ 0 = [] from rfl, List.append_nil], by rw [Hwo.out]; exact HB, by rw [Hwo.out]; exact BK763⟩
         case round =>
          clear HB BK763
          obtain ⟨j, hj, rfl, rfl, HB, BK763⟩ := hrel
          by_cases hj16 : j < 16
          · have hnib := nib u_ Hu0.out j
            go_wp2
            · exfalso
              rename_i hov
              rw [strOfNums_size, wordN_len, Hlen.out] at hov
              simp only [List.length_cons, List.length_nil] at hov
              omega
            go_roundw
            case rel => exact ⟨j + 1, by omega, by go_num, by exact congrArg Value.string (hex_round pr_ l_ u_ j _ _ rfl), ⟨(HB.out).alloc (by have := (HB.out).size; omega) _⟩, ⟨blk_alloc BK763.out _⟩⟩
            case measure => simp [intOf]; omega
          · go_wp2
            obtain rfl : j = 16 := by omega
            go_roundw
            case rel => exact ⟨kk + 1, by omega, by go_num, by rw [Hl.out, Hu.out, hnx.out], HB, BK763⟩
            case measure => simp [intOf]; omega
       · obtain rfl : kk = 4 := by omega
         go_wp2
         go_meet
         case rel => exact ⟨_, ((strOfNums y764) ++ t767), (by first | (rw [words_some Hw.out, Hpr.out]) | rfl | (simp; done) | (simp [*]; done) | (simp; unfold wrap64; omega)), H', ⟨by first | omega | exact Nat.le_refl _⟩, ⟨by (with_reducible repeat (first | refine blk_drewN ?_ _ | refine blk_drew ?_ | refine blk_alloc ?_ _)); exact BK763.out⟩, ⟨by repeat (first | (with_reducible first | exact HB.out | apply below_alloc | apply pw_below_drewN | apply below_drew1 | refine below_set ?_ GE763.out) | exact HB.out)⟩⟩
     ·rw [if_neg c16] at H
      exact absurd H (by simp)
    ·rw [if_neg c14] at H
     have c14b0 : (a0_0 == 1) = false := beq_eq_false_iff_ne.mpr c14
     have c14b1 : (a0_0 != 1) = true := bne_iff_ne.mpr c14
     (first | rw [c14b0] | (simp only [i64_w, i32_w]; rw [c14b0]) | skip)
     have H' := Aside0.mk H
     clear H
     go_wp2
     go_meet
     case rel => exact ⟨_, (strOfNums y764), (by first | rfl | (simp; done) | (simp [*]; done) | (simp; unfold wrap64; omega)), H', ⟨by first | omega | exact Nat.le_refl _⟩, ⟨by (with_reducible repeat (first | refine blk_drewN ?_ _ | refine blk_drew ?_ | refine blk_alloc ?_ _)); exact BK763.out⟩, ⟨by repeat (first | (with_reducible first | exact HB.out | apply below_alloc | apply pw_below_drewN | apply below_drew1 | refine below_set ?_ GE763.out) | exact HB.out)⟩⟩
   case rest =>
    clear HC7
    try clear c1
    try clear hcv1
    try clear p2
    try clear c3
    try clear c4
    try clear c4b0
    try clear c5
    try clear c5b0
    try clear p6
    try clear q6
    try clear hx6
    try clear hcv12
    try clear c14
    try clear c14b0
    try clear c14b1
    try clear c15
    try clear c16
    try clear c16b0
    try clear c16b1
    try clear c16b2
    try clear hcz13_0
    try clear hcz13_1
    try clear hcz13_2
    try clear hcz13_3
    try clear hcz13_4
    try clear hcz13_5
    try clear hcz17_0
    try clear hcz17_1
    try clear hcz17_2
    try clear hcz17_3
    try clear hcz17_4
    try clear hcz17_5
    try clear hcz9_0
    try clear hcz9_1
    try clear hcz9_2
    try clear hcz9_3
    try clear hcz9_4
    try clear hcz9_5
    try clear hfz13_0
    try clear hfz13_1
    try clear hfz13_2
    try clear hfz13_3
    try clear hfz13_4
    try clear hfz13_5
    try clear hfz17_0
    try clear hfz17_1
    try clear hfz17_2
    try clear hfz17_3
    try clear hfz17_4
    try clear hfz17_5
    try clear hfz9_0
    try clear hfz9_1
    try clear hfz9_2
    try clear hfz9_3
    try clear hfz9_4
    try clear hfz9_5
    try clear p6
    try clear q6
    obtain ⟨kq, x3_6, rfl, HA, HJ6, BK763, HB⟩ := hcut
    cases kq with
    | zero => exact absurd HA.out (by simp [regex_Print.j0])
    | succ kj6 =>
     have H := HA.out
     clear HA
     simp only [regex_Print.j0] at H
     have H' := Aside0.mk H
     clear H
     have hcz19_0 : wc.cell? ⟨gb763, 0, none⟩ = some (.int .i64 a0_0) := (blk_cell BK763.out 0).trans rfl
     have hcz19_1 : wc.cell? ⟨gb763, 1, none⟩ = some (.int .u64 a0_1) := (blk_cell BK763.out 1).trans rfl
     have hcz19_2 : wc.cell? ⟨gb763, 2, none⟩ = some (.int .u64 a0_2) := (blk_cell BK763.out 2).trans rfl
     have hcz19_3 : wc.cell? ⟨gb763, 3, none⟩ = some (.int .u64 a0_3) := (blk_cell BK763.out 3).trans rfl
     have hcz19_4 : wc.cell? ⟨gb763, 4, none⟩ = some (.int .u64 a0_4) := (blk_cell BK763.out 4).trans rfl
     have hcz19_5 : wc.cell? ⟨gb763, 5, none⟩ = some (.slice A0_5 l0_5.length c0_5) := (blk_cell BK763.out 5).trans rfl
     have hfz19_0 := blk_frozen BK763.out 0
     have hfz19_1 := blk_frozen BK763.out 1
     have hfz19_2 := blk_frozen BK763.out 2
     have hfz19_3 := blk_frozen BK763.out 3
     have hfz19_4 := blk_frozen BK763.out 4
     have hfz19_5 := blk_frozen BK763.out 5
     go_wp2
     go_loopg [3, 41] kj6 (fun kq v3 v41 w' => ∃ (x3_2 : ByteArray) (x41_2 : Int), v3 = .string x3_2 ∧ v41 = .int .i64 x41_2 ∧ Aside0 (regex_Print.l0 kq x3_2 l0_5 (l0_5.length : Int) x41_2 = some r) ∧ Aside0 (kq ≤ kj6) ∧ Aside0 (w'.heap[gb763]? = some (.cells #[.int .i64 a0_0, .int .u64 a0_1, .int .u64 a0_2, .int .u64 a0_3, .int .u64 a0_4, (.slice A0_5 l0_5.length c0_5)] 29 (0, 0))) ∧ Aside0 (Below w.heap.size w w'))
     case atStart => exact ⟨(x3_6), (0), (by first | rfl | (simp; done) | (simp [*]; done) | (simp; unfold wrap64; omega)), (by first | rfl | (simp; done) | (simp [*]; done) | (simp; unfold wrap64; omega)), H', ⟨Nat.le_refl _⟩, ⟨by (with_reducible repeat (first | refine blk_drewN ?_ _ | refine blk_drew ?_ | refine blk_alloc ?_ _)); exact BK763.out⟩, ⟨by repeat (first | (with_reducible first | exact HB.out | apply below_alloc | apply pw_below_drewN | apply below_drew1 | refine below_set ?_ GE763.out) | exact HB.out)⟩⟩
     case round =>
      clear H'
      try clear c1
      try clear hcv1
      try clear p2
      try clear c3
      try clear c4
      try clear c4b0
      try clear c5
      try clear c5b0
      try clear p6
      try clear q6
      try clear hx6
      try clear hcv12
      try clear c14
      try clear c14b0
      try clear c14b1
      try clear c15
      try clear c16
      try clear c16b0
      try clear c16b1
      try clear c16b2
      try clear hcz13_0
      try clear hcz13_1
      try clear hcz13_2
      try clear hcz13_3
      try clear hcz13_4
      try clear hcz13_5
      try clear hcz17_0
      try clear hcz17_1
      try clear hcz17_2
      try clear hcz17_3
      try clear hcz17_4
      try clear hcz17_5
      try clear hcz19_0
      try clear hcz19_1
      try clear hcz19_2
      try clear hcz19_3
      try clear hcz19_4
      try clear hcz19_5
      try clear hcz9_0
      try clear hcz9_1
      try clear hcz9_2
      try clear hcz9_3
      try clear hcz9_4
      try clear hcz9_5
      try clear hfz13_0
      try clear hfz13_1
      try clear hfz13_2
      try clear hfz13_3
      try clear hfz13_4
      try clear hfz13_5
      try clear hfz17_0
      try clear hfz17_1
      try clear hfz17_2
      try clear hfz17_3
      try clear hfz17_4
      try clear hfz17_5
      try clear hfz19_0
      try clear hfz19_1
      try clear hfz19_2
      try clear hfz19_3
      try clear hfz19_4
      try clear hfz19_5
      try clear hfz9_0
      try clear hfz9_1
      try clear hfz9_2
      try clear hfz9_3
      try clear hfz9_4
      try clear hfz9_5
      try clear p2
      try clear p6
      try clear q6
      obtain ⟨x3_2, x41_2, rfl, rfl, HA, HK2, BK763, HB⟩ := hrel
      cases gk with
      | zero => exact absurd HA.out (by simp [regex_Print.l0])
      | succ k2 =>
       have H := HA.out
       clear HA
       simp only [regex_Print.l0] at H
       by_cases c20 : x41_2 < (l0_5.length : Int)
       ·rw [if_pos c20] at H
        have c20b0 : decide (x41_2 < (l0_5.length : Int)) = true := decide_eq_true c20
        clear c20
        by_cases c21 : 0 ≤ x41_2
        ·rw [if_pos c21] at H
         have c21b0 : decide (0 ≤ x41_2) = true := decide_eq_true c21
         clear c21
         by_cases c22 : x41_2 < (l0_5.length : Int)
         ·rw [if_pos c22] at H
          have c22b0 : decide (x41_2 < (l0_5.length : Int)) = true := decide_eq_true c22
          clear c22
          replace H := Option.bind_eq_some_iff.mp H
          obtain ⟨t770, A230, H⟩ := H
          replace H : (if 1 + t770.size ≤ 9223372036854775807 then (if ((⟨#[40]⟩ : ByteArray) ++ t770).size + 1 ≤ 9223372036854775807 then (if x3_2.size + (((⟨#[40]⟩ : ByteArray) ++ t770) ++ (⟨#[41]⟩ : ByteArray)).size ≤ 9223372036854775807 then (regex_Print.l0 k2 (x3_2 ++ (((⟨#[40]⟩ : ByteArray) ++ t770) ++ (⟨#[41]⟩ : ByteArray))) l0_5 (l0_5.length : Int) (wrap64 (x41_2 + 1))) else (none)) else (none)) else (none)) = some r := H
          have A23 := Aside0.mk A230
          clear A230
          by_cases c24 : 1 + t770.size ≤ 9223372036854775807
          ·rw [if_pos c24] at H
           have c24b0 := eq_true c24
           have c24b1 : decide (1 + t770.size ≤ 9223372036854775807) = true := decide_eq_true c24
           try have c24b2 : (9223372036854775807 < 1 + t770.size) = False := eq_false (Nat.not_lt.2 c24)
           try (have c24b3 := c24b2; simp only [ByteArray.size_append', ba_size_mk, List.size_toArray, List.length_cons, List.length_nil, Nat.zero_add, Nat.reduceAdd, ByteArray.size_extract, Nat.min_self, Nat.sub_zero] at c24b3)
           by_cases c25 : ((⟨#[40]⟩ : ByteArray) ++ t770).size + 1 ≤ 9223372036854775807
           ·rw [if_pos c25] at H
            have c25b0 := eq_true c25
            have c25b1 : decide (((⟨#[40]⟩ : ByteArray) ++ t770).size + 1 ≤ 9223372036854775807) = true := decide_eq_true c25
            try have c25b2 : (9223372036854775807 < ((⟨#[40]⟩ : ByteArray) ++ t770).size + 1) = False := eq_false (Nat.not_lt.2 c25)
            try (have c25b3 := c25b2; simp only [ByteArray.size_append', ba_size_mk, List.size_toArray, List.length_cons, List.length_nil, Nat.zero_add, Nat.reduceAdd, ByteArray.size_extract, Nat.min_self, Nat.sub_zero] at c25b3)
            by_cases c26 : x3_2.size + (((⟨#[40]⟩ : ByteArray) ++ t770) ++ (⟨#[41]⟩ : ByteArray)).size ≤ 9223372036854775807
            ·rw [if_pos c26] at H
             have c26b0 := eq_true c26
             have c26b1 : decide (x3_2.size + (((⟨#[40]⟩ : ByteArray) ++ t770) ++ (⟨#[41]⟩ : ByteArray)).size ≤ 9223372036854775807) = true := decide_eq_true c26
             try have c26b2 : (9223372036854775807 < x3_2.size + (((⟨#[40]⟩ : ByteArray) ++ t770) ++ (⟨#[41]⟩ : ByteArray)).size) = False := eq_false (Nat.not_lt.2 c26)
             try (have c26b3 := c26b2; simp only [ByteArray.size_append', ba_size_mk, List.size_toArray, List.length_cons, List.length_nil, Nat.zero_add, Nat.reduceAdd, ByteArray.size_extract, Nat.min_self, Nat.sub_zero] at c26b3)
             have H' := Aside0.mk H
             clear H
             have p768 : 0 ≤ (x41_2 : Int) := of_decide_eq_true (by first | (with_reducible assumption) | assumption)
             have q768 : x41_2 < (l0_5.length : Int) := of_decide_eq_true (by first | (with_reducible assumption) | assumption)
             obtain ⟨ad768, A768_5, c768_5, e768, hx768_0, hx768_1, hx768_2, hx768_3, hx768_4, hx768_5, hl768_5, hi768_5⟩ := at_T29 HR0_5.out x41_2 p768 q768
             cases e768
             replace hx768_0 := (HB.out.cell (World.block_lt_of_cell? w _ hx768_0)).trans hx768_0
             replace hx768_1 := (HB.out.cell (World.block_lt_of_cell? w _ hx768_1)).trans hx768_1
             replace hx768_2 := (HB.out.cell (World.block_lt_of_cell? w _ hx768_2)).trans hx768_2
             replace hx768_3 := (HB.out.cell (World.block_lt_of_cell? w _ hx768_3)).trans hx768_3
             replace hx768_4 := (HB.out.cell (World.block_lt_of_cell? w _ hx768_4)).trans hx768_4
             replace hx768_5 := (HB.out.cell (World.block_lt_of_cell? w _ hx768_5)).trans hx768_5
             have HR768_5 := Aside0.mk hi768_5
             have HC768_5 := Aside0.mk hl768_5
             clear hi768_5 hl768_5
             replace p768 := eq_true p768
             replace q768 := eq_true q768
             go_wp2_with (first | ((with_reducible refine gate_dst (N := 8) rfl ?_); refine box_event ?hg (N := 8) ?hd (cs := #[.int .i64 0, .int .u64 0, .int .u64 0, .int .u64 0, .int .u64 0, .slice none 0 0]) (t := 29) ?hr ?_; (case hd => rfl); (case hg => rfl); (case hr => first | (go_simp; done) | (go_simp; rfl)); intro gb769 hg w27 hbox hb; have n0_ := Aside0.mk (blk_below (g := gb763) (o := .cells #[.int .i64 a0_0, .int .u64 a0_1, .int .u64 a0_2, .int .u64 a0_3, .int .u64 a0_4, .slice (some ad768) l0_5.length c0_5] 29 (0, 0)) (by (with_reducible repeat (first | refine blk_drewN ?_ _ | refine blk_drew ?_ | refine blk_alloc ?_ _)); exact BK763.out) hb); have n1_ := Aside0.mk (below_step (by repeat (first | (with_reducible first | exact HB.out | apply below_alloc | apply pw_below_drewN | apply below_drew1 | refine below_set ?_ GE763.out) | exact HB.out)) hb); have n2_ := Aside0.mk (hbox); have n3_ := Aside0.mk ((by rw [hg]; exact (below_size (by repeat (first | (with_reducible first | exact HB.out | apply below_alloc | apply pw_below_drewN | apply below_drew1 | refine below_set ?_ GE763.out) | exact HB.out))) : w.heap.size ≤ gb769)); have n4_ := Aside0.mk ((by rw [hg]; exact (below_size (by repeat (first | (with_reducible first | exact HB.out | apply below_alloc | apply pw_below_drewN | apply below_drew1 | refine below_set ?_ GE763.out) | exact HB.out))) : w.heap.size ≤ gb769)); have n5_ := Aside0.mk ((by rw [hg]; exact Nat.ne_of_lt (blk_lt (g := gb763) (o := .cells #[.int .i64 a0_0, .int .u64 a0_1, .int .u64 a0_2, .int .u64 a0_3, .int .u64 a0_4, .slice (some ad768) l0_5.length c0_5] 29 (0, 0)) (by (with_reducible repeat (first | refine blk_drewN ?_ _ | refine blk_drew ?_ | refine blk_alloc ?_ _)); exact BK763.out)) : gb763 ≠ gb769)); have n6_ := Aside0.mk ((by rw [hg]; exact Nat.ne_of_gt (blk_lt (g := gb763) (o := .cells #[.int .i64 a0_0, .int .u64 a0_1, .int .u64 a0_2, .int .u64 a0_3, .int .u64 a0_4, .slice (some ad768) l0_5.length c0_5] 29 (0, 0)) (by (with_reducible repeat (first | refine blk_drewN ?_ _ | refine blk_drew ?_ | refine blk_alloc ?_ _)); exact BK763.out)) : gb769 ≠ gb763)); clear BK763; clear HB; have BK763 := n0_; have HB := n1_; have BK769 := n2_; have GW769 := n3_; have GE769 := n4_; have NB763_769 := n5_; have NB769_763 := n6_; clear n0_ n1_ n2_ n3_ n4_ n5_ n6_; clear hb hbox hg; have hnb28 := NB769_763.out; have hnc28 := NB763_769.out; have hcz29_0 : w27.cell? ⟨gb769, 0, none⟩ = some (.int .i64 0) := (blk_cell BK769.out 0).trans rfl; have hcz29_1 : w27.cell? ⟨gb769, 1, none⟩ = some (.int .u64 0) := (blk_cell BK769.out 1).trans rfl; have hcz29_2 : w27.cell? ⟨gb769, 2, none⟩ = some (.int .u64 0) := (blk_cell BK769.out 2).trans rfl; have hcz29_3 : w27.cell? ⟨gb769, 3, none⟩ = some (.int .u64 0) := (blk_cell BK769.out 3).trans rfl; have hcz29_4 : w27.cell? ⟨gb769, 4, none⟩ = some (.int .u64 0) := (blk_cell BK769.out 4).trans rfl; have hcz29_5 : w27.cell? ⟨gb769, 5, none⟩ = some (.slice none 0 0) := (blk_cell BK769.out 5).trans rfl; have hfz29_0 := blk_frozen BK769.out 0; have hfz29_1 := blk_frozen BK769.out 1; have hfz29_2 := blk_frozen BK769.out 2; have hfz29_3 := blk_frozen BK769.out 3; have hfz29_4 := blk_frozen BK769.out 4; have hfz29_5 := blk_frozen BK769.out 5) | ((with_reducible refine gate_callee (f := 15) rfl ?_); refine goesL_ (some 47) rfl rfl Try.func15 (by kernel_rfl) rfl #[.agg #[.int .i64 ((rd_T29 l0_5 x41_2).f0), .int .u64 ((rd_T29 l0_5 x41_2).f1.f0), .int .u64 ((rd_T29 l0_5 x41_2).f1.f1), .int .u64 ((rd_T29 l0_5 x41_2).f1.f2), .int .u64 ((rd_T29 l0_5 x41_2).f1.f3), .slice A768_5 ((rd_T29 l0_5 x41_2).f2).length c768_5]] rfl (by (try simp only [List.map_toArray, List.map_cons, List.map_nil]); first | done | rfl | (simp only [List.length_drop, List.length_take]; rfl)) ?_; (with_reducible refine (ih k2 (by have := HJ6.out; have := HK2.out; omega) ((rd_T29 l0_5 x41_2).f0) ((rd_T29 l0_5 x41_2).f1.f0) ((rd_T29 l0_5 x41_2).f1.f1) ((rd_T29 l0_5 x41_2).f1.f2) ((rd_T29 l0_5 x41_2).f1.f3) _ _ ((rd_T29 l0_5 x41_2).f2) t770 _ ?side1 ?side2 ?side3 A23.out).mono ?_); (case side1 => exact Kd.C_below HR768_5.out (by repeat (first | (with_reducible first | exact HB.out | apply below_alloc | apply pw_below_drewN | apply below_drew1 | refine below_set ?_ GE763.out | refine below_set ?_ GE769.out) | exact HB.out))); (case side2 => exact HC768_5.out); (case side3 => exact TB.below hT (by repeat (first | (with_reducible first | exact HB.out | apply below_alloc | apply pw_below_drewN | apply below_drew1 | refine below_set ?_ GE763.out | refine below_set ?_ GE769.out) | exact HB.out))); rintro e w30 ⟨rfl, hb⟩; refine ⟨_, rfl, ?_⟩; have n0_ := Aside0.mk (blk_below (g := gb763) (o := .cells #[.int .i64 a0_0, .int .u64 a0_1, .int .u64 a0_2, .int .u64 a0_3, .int .u64 a0_4, .slice (some ad768) l0_5.length c0_5] 29 (0, 0)) (by (with_reducible repeat (first | refine blk_drewN ?_ _ | refine blk_drew ?_ | refine blk_alloc ?_ _)); refine blk_far ?_ NB763_769.out _; (with_reducible repeat (first | refine blk_drewN ?_ _ | refine blk_drew ?_ | refine blk_alloc ?_ _)); refine blk_far ?_ NB763_769.out _; (with_reducible repeat (first | refine blk_drewN ?_ _ | refine blk_drew ?_ | refine blk_alloc ?_ _)); refine blk_far ?_ NB763_769.out _; (with_reducible repeat (first | refine blk_drewN ?_ _ | refine blk_drew ?_ | refine blk_alloc ?_ _)); refine blk_far ?_ NB763_769.out _; (with_reducible repeat (first | refine blk_drewN ?_ _ | refine blk_drew ?_ | refine blk_alloc ?_ _)); refine blk_far ?_ NB763_769.out _; (with_reducible repeat (first | refine blk_drewN ?_ _ | refine blk_drew ?_ | refine blk_alloc ?_ _)); refine blk_far ?_ NB763_769.out _; (with_reducible repeat (first | refine blk_drewN ?_ _ | refine blk_drew ?_ | refine blk_alloc ?_ _)); exact BK763.out) hb); have n1_ := Aside0.mk (blk_below (g := gb769) (o := .cells #[.int .i64 ((rd_T29 l0_5 x41_2).f0), .int .u64 ((rd_T29 l0_5 x41_2).f1.f0), .int .u64 ((rd_T29 l0_5 x41_2).f1.f1), .int .u64 ((rd_T29 l0_5 x41_2).f1.f2), .int .u64 ((rd_T29 l0_5 x41_2).f1.f3), .slice A768_5 ((rd_T29 l0_5 x41_2).f2).length c768_5] 29 (0, 0)) (by (with_reducible repeat (first | refine blk_drewN ?_ _ | refine blk_drew ?_ | refine blk_alloc ?_ _)); refine blk_put (cs := #[.int .i64 ((rd_T29 l0_5 x41_2).f0), .int .u64 ((rd_T29 l0_5 x41_2).f1.f0), .int .u64 ((rd_T29 l0_5 x41_2).f1.f1), .int .u64 ((rd_T29 l0_5 x41_2).f1.f2), .int .u64 ((rd_T29 l0_5 x41_2).f1.f3), .slice none 0 0]) ?_ 5 _ rfl; (with_reducible repeat (first | refine blk_drewN ?_ _ | refine blk_drew ?_ | refine blk_alloc ?_ _)); refine blk_put (cs := #[.int .i64 ((rd_T29 l0_5 x41_2).f0), .int .u64 ((rd_T29 l0_5 x41_2).f1.f0), .int .u64 ((rd_T29 l0_5 x41_2).f1.f1), .int .u64 ((rd_T29 l0_5 x41_2).f1.f2), .int .u64 0, .slice none 0 0]) ?_ 4 _ rfl; (with_reducible repeat (first | refine blk_drewN ?_ _ | refine blk_drew ?_ | refine blk_alloc ?_ _)); refine blk_put (cs := #[.int .i64 ((rd_T29 l0_5 x41_2).f0), .int .u64 ((rd_T29 l0_5 x41_2).f1.f0), .int .u64 ((rd_T29 l0_5 x41_2).f1.f1), .int .u64 0, .int .u64 0, .slice none 0 0]) ?_ 3 _ rfl; (with_reducible repeat (first | refine blk_drewN ?_ _ | refine blk_drew ?_ | refine blk_alloc ?_ _)); refine blk_put (cs := #[.int .i64 ((rd_T29 l0_5 x41_2).f0), .int .u64 ((rd_T29 l0_5 x41_2).f1.f0), .int .u64 0, .int .u64 0, .int .u64 0, .slice none 0 0]) ?_ 2 _ rfl; (with_reducible repeat (first | refine blk_drewN ?_ _ | refine blk_drew ?_ | refine blk_alloc ?_ _)); refine blk_put (cs := #[.int .i64 ((rd_T29 l0_5 x41_2).f0), .int .u64 0, .int .u64 0, .int .u64 0, .int .u64 0, .slice none 0 0]) ?_ 1 _ rfl; (with_reducible repeat (first | refine blk_drewN ?_ _ | refine blk_drew ?_ | refine blk_alloc ?_ _)); refine blk_put (cs := #[.int .i64 0, .int .u64 0, .int .u64 0, .int .u64 0, .int .u64 0, .slice none 0 0]) ?_ 0 _ rfl; (with_reducible repeat (first | refine blk_drewN ?_ _ | refine blk_drew ?_ | refine blk_alloc ?_ _)); exact BK769.out) hb); have n2_ := Aside0.mk (below_step (by repeat (first | (with_reducible first | exact HB.out | apply below_alloc | apply pw_below_drewN | apply below_drew1 | refine below_set ?_ GE763.out | refine below_set ?_ GE769.out) | exact HB.out)) hb); clear BK763; clear BK769; clear HB; have BK763 := n0_; have BK769 := n1_; have HB := n2_; clear n0_ n1_ n2_; (try clear hb); (try clear hb2); (try clear hk); (try clear hi)))
             go_roundg k2
             case measure => have := HJ6.out; have := HK2.out; omega
             case rel => exact ⟨(x3_2 ++ (((⟨#[40]⟩ : ByteArray) ++ t770) ++ (⟨#[41]⟩ : ByteArray))), (wrap64 (x41_2 + 1)), (by first | rfl | (simp; done) | (simp [*]; done) | (simp; unfold wrap64; omega)), (by first | rfl | (simp; done) | (simp [*]; done) | (simp; unfold wrap64; omega)), H', ⟨by have := HJ6.out; have := HK2.out; omega⟩, ⟨by (with_reducible repeat (first | refine blk_drewN ?_ _ | refine blk_drew ?_ | refine blk_alloc ?_ _)); exact BK763.out⟩, ⟨by repeat (first | (with_reducible first | exact HB.out | apply below_alloc | apply pw_below_drewN | apply below_drew1 | refine below_set ?_ GE763.out | refine below_set ?_ GE769.out) | exact HB.out)⟩⟩
            ·rw [if_neg c26] at H
             exact absurd H (by simp)
           ·rw [if_neg c25] at H
            exact absurd H (by simp)
          ·rw [if_neg c24] at H
           exact absurd H (by simp)
         ·rw [if_neg c22] at H
          exact absurd H (by simp)
        ·rw [if_neg c21] at H
         exact absurd H (by simp)
       ·rw [if_neg c20] at H
        have c20b0 : decide (x41_2 < (l0_5.length : Int)) = false := decide_eq_false c20
        clear c20
        obtain rfl := Option.some.inj H
        go_wp2
        go_ret
        exact ⟨by first | rfl | (simp [errW_none, errW_some] <;> rfl) | (simp [errW_none, errW_some] <;> first | rfl | exact isEmpty_bne _) | (simp only [← hji2, ← hji3]; first | rfl | (simp [errW_none, errW_some] <;> rfl)) | (simp [*, errW_none, errW_some] <;> rfl), by repeat (first | (with_reducible first | exact HB.out | apply below_alloc | apply pw_below_drewN | apply below_drew1 | refine below_set ?_ GE763.out) | exact HB.out)⟩
  ·rw [if_neg c5] at H
   exact absurd H (by simp)
 ·rw [if_neg c4] at H
  exact absurd H (by simp)

end Go.Proofs.Ytdjnjhmmpjbbaaa.Pr
