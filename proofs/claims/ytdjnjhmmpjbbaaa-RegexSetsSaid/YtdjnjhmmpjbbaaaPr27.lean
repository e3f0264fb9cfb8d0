/- The machine's side, written by a patched print (wip/tools): each theorem says that a call of the Go function comes to what the Lean function beside it computes, where the tables are laid (TB). -/
import Derived.Test.YtdjnjhmmpjbbaaaPr0
import Derived.Test.YtdjnjhmmpjbbaaaPr26
namespace Go.Proofs.Ytdjnjhmmpjbbaaa.Pr
open Go.RowKit Go.Proofs.YtdjnjhmmpjbbaaaW.PrintWords Go.Proofs.YtdjnjhmmpjbbaaaW.PrintLast Go.Proofs.YtdjnjhmmpjbbaaaW.PrintMore
attribute [local go_sem] fld39_0 fld39_1 fld39_2 fld50_0 fld50_1 fld50_2 fld50_3 fld50_4 fld54_0 fld54_1 fld54_2 fld54_3 fld54_4 fld9000_0 fld9000_1 fld9000_2 fld9000_3 fld9000_4 binOp_string_gtr2 binOp_string_leq2 binOp_string_geq2 max2_int min2_int max_two min_two max_three min_three max_four min_four   -- for this text's walks alone
set_option linter.unusedVariables false
set_option linter.unusedSimpArgs false

/-! ### scriberef09_Print: function 16 -/
mutual
def scriberef09_Print.j0 : Nat → ByteArray → Int → ByteArray → List (S39) → Option (ByteArray)
 | 0, _, _, _, _ => none
 | k + 1, x3, x777000, x777001, x777002 => scriberef09_Print.l0 k x3 x777002 (x777002.length : Int) 0
def scriberef09_Print.l0 : Nat → ByteArray → List (S39) → Int → Int → Option (ByteArray)
 | 0, _, _, _, _ => none
 | k + 1, x3, x21, x22, x23 => if x23 < x22 then (if 0 ≤ x23 then (if x23 < (x21.length : Int) then ((scriberef09_Print.f k ((rd_T39 x21 x23).f0) ((rd_T39 x21 x23).f1) ((rd_T39 x21 x23).f2)).bind fun t780 => (if 1 + t780.size ≤ 9223372036854775807 then (if ((⟨#[40]⟩ : ByteArray) ++ t780).size + 1 ≤ 9223372036854775807 then (if x3.size + (((⟨#[40]⟩ : ByteArray) ++ t780) ++ (⟨#[41]⟩ : ByteArray)).size ≤ 9223372036854775807 then (scriberef09_Print.l0 k (x3 ++ (((⟨#[40]⟩ : ByteArray) ++ t780) ++ (⟨#[41]⟩ : ByteArray))) x21 x22 (wrap64 (x23 + 1))) else (none)) else (none)) else (none))) else (none)) else (none)) else (some x3)
def scriberef09_Print.f : Nat → Int → ByteArray → List (S39) → Option (ByteArray)
 | 0, _, _, _ => none
 | k + 1, a0_0, a0_1, l0_2 => if 0 ≤ a0_0 then (if a0_0 ≤ (wrap64 (a0_0 + 1)) then (if (wrap64 (a0_0 + 1)) ≤ 9 then (if a0_0 = 1 then ((scriberef09_Words.f k a0_1).bind fun t777 => (if ((⟨#[101, 49, 38, 124, 42, 43, 63, 94, 36]⟩ : ByteArray).extract (a0_0 : Int).toNat ((wrap64 (a0_0 + 1)) : Int).toNat).size + t777.size ≤ 9223372036854775807 then (scriberef09_Print.j0 k (((⟨#[101, 49, 38, 124, 42, 43, 63, 94, 36]⟩ : ByteArray).extract (a0_0 : Int).toNat ((wrap64 (a0_0 + 1)) : Int).toNat) ++ t777) a0_0 a0_1 l0_2) else (none))) else (scriberef09_Print.j0 k ((⟨#[101, 49, 38, 124, 42, 43, 63, 94, 36]⟩ : ByteArray).extract (a0_0 : Int).toNat ((wrap64 (a0_0 + 1)) : Int).toNat) a0_0 a0_1 l0_2)) else (none)) else (none)) else (none)
end
theorem scriberef09_Print.mono_l : ∀ k, (∀ y0 y1 y2, LeO (scriberef09_Print.f k y0 y1 y2) (scriberef09_Print.f (k + 1) y0 y1 y2)) ∧ (∀ y0 y1 y2 y3, LeO (scriberef09_Print.j0 k y0 y1 y2 y3) (scriberef09_Print.j0 (k + 1) y0 y1 y2 y3)) ∧ (∀ y0 y1 y2 y3, LeO (scriberef09_Print.l0 k y0 y1 y2 y3) (scriberef09_Print.l0 (k + 1) y0 y1 y2 y3))
 | 0 => ⟨fun _ _ _ r h => by simp [scriberef09_Print.f] at h, fun _ _ _ _ r h => by simp [scriberef09_Print.j0] at h, fun _ _ _ _ r h => by simp [scriberef09_Print.l0] at h⟩
 | k + 1 => by
  obtain ⟨ih0, ih1, ih2⟩ := scriberef09_Print.mono_l k
  refine ⟨?_, ?_, ?_⟩
  ·intro y0 y1 y2
   unfold scriberef09_Print.f
   repeat' first
   | (with_reducible exact ih0 _ _ _)
   | (with_reducible exact ih1 _ _ _ _)
   | (with_reducible exact ih2 _ _ _ _)
   | (with_reducible exact scriberef09_Words.mono _ _)
   | (with_reducible exact LeO.refl _)
   | (with_reducible exact LeO.none _)
   | (with_reducible refine LeO.ite ?_ ?_)
   | (with_reducible refine LeO.bind ?_ (fun _ => ?_))
   | exact ih0 _ _ _
   | exact ih1 _ _ _ _
   | exact ih2 _ _ _ _
   | exact scriberef09_Words.mono _ _
   | exact LeO.none _
   | refine LeO.ite ?_ ?_
   | refine LeO.bind ?_ (fun _ => ?_)
  ·intro y0 y1 y2 y3
   unfold scriberef09_Print.j0
   repeat' first
   | (with_reducible exact ih0 _ _ _)
   | (with_reducible exact ih1 _ _ _ _)
   | (with_reducible exact ih2 _ _ _ _)
   | (with_reducible exact scriberef09_Words.mono _ _)
   | (with_reducible exact LeO.refl _)
   | (with_reducible exact LeO.none _)
   | (with_reducible refine LeO.ite ?_ ?_)
   | (with_reducible refine LeO.bind ?_ (fun _ => ?_))
   | exact ih0 _ _ _
   | exact ih1 _ _ _ _
   | exact ih2 _ _ _ _
   | exact scriberef09_Words.mono _ _
   | exact LeO.none _
   | refine LeO.ite ?_ ?_
   | refine LeO.bind ?_ (fun _ => ?_)
  ·intro y0 y1 y2 y3
   unfold scriberef09_Print.l0
   repeat' first
   | (with_reducible exact ih0 _ _ _)
   | (with_reducible exact ih1 _ _ _ _)
   | (with_reducible exact ih2 _ _ _ _)
   | (with_reducible exact scriberef09_Words.mono _ _)
   | (with_reducible exact LeO.refl _)
   | (with_reducible exact LeO.none _)
   | (with_reducible refine LeO.ite ?_ ?_)
   | (with_reducible refine LeO.bind ?_ (fun _ => ?_))
   | exact ih0 _ _ _
   | exact ih1 _ _ _ _
   | exact ih2 _ _ _ _
   | exact scriberef09_Words.mono _ _
   | exact LeO.none _
   | refine LeO.ite ?_ ?_
   | refine LeO.bind ?_ (fun _ => ?_)
theorem scriberef09_Print.mono : ∀ a0 a1 a2 k, LeO (scriberef09_Print.f k a0 a1 a2) (scriberef09_Print.f (k + 1) a0 a1 a2) := by
 intro a0 a1 a2 k
 obtain ⟨ih0, ih1, ih2⟩ := scriberef09_Print.mono_l k
 exact ih0 a0 a1 a2
set_option maxHeartbeats 8000000 in
set_option maxRecDepth 100000 in
theorem scriberef09_Print.calls (k : Nat) : ∀ (a0_0 : Int) (a0_1 : ByteArray) (A0_2 : Option Addr) (c0_2 : Nat) (l0_2 : List (S39)) (r : ByteArray) (w : World) (hr0_2 : Kd.C k39 w A0_2 l0_2.length l0_2) (hc0_2 : l0_2.length ≤ c0_2) (hT : TB w) (h : scriberef09_Print.f k a0_0 a0_1 l0_2 = some r),
  Calls Try.prog 16 #[.agg #[.int .i64 a0_0, .string a0_1, .slice A0_2 l0_2.length c0_2]] w fun e w' => e = .returned (.string r) ∧ Below w.heap.size w w' := by
 induction k using Nat.strongRecOn with
 | _ k ih =>
 intro a0_0 a0_1 A0_2 c0_2 l0_2 r w hr0_2 hc0_2 hT h
 cases k with
 | zero => exact absurd h (by simp [scriberef09_Print.f])
 | succ k =>
 simp only [scriberef09_Print.f] at h
 have hu39 := Try.underlying39
 have HR0_2 := Aside0.mk hr0_2
 have HC0_2 := Aside0.mk hc0_2
 clear hr0_2 hc0_2
 have HB := Aside0.mk (Below.refl w.heap.size w)
 have H : (if 0 ≤ a0_0 then (if a0_0 ≤ (wrap64 (a0_0 + 1)) then (if (wrap64 (a0_0 + 1)) ≤ 9 then (if a0_0 = 1 then ((scriberef09_Words.f k a0_1).bind fun t777 => (if ((⟨#[101, 49, 38, 124, 42, 43, 63, 94, 36]⟩ : ByteArray).extract (a0_0 : Int).toNat ((wrap64 (a0_0 + 1)) : Int).toNat).size + t777.size ≤ 9223372036854775807 then (scriberef09_Print.j0 k (((⟨#[101, 49, 38, 124, 42, 43, 63, 94, 36]⟩ : ByteArray).extract (a0_0 : Int).toNat ((wrap64 (a0_0 + 1)) : Int).toNat) ++ t777) a0_0 a0_1 l0_2) else (none))) else (scriberef09_Print.j0 k ((⟨#[101, 49, 38, 124, 42, 43, 63, 94, 36]⟩ : ByteArray).extract (a0_0 : Int).toNat ((wrap64 (a0_0 + 1)) : Int).toNat) a0_0 a0_1 l0_2)) else (none)) else (none)) else (none)) = some r := h
 clear h
 by_cases c2 : 0 ≤ a0_0
 ·rw [if_pos c2] at H
  have c2b0 := eq_true c2
  have c2b1 : decide (0 ≤ a0_0) = true := decide_eq_true c2
  clear c2
  by_cases c3 : a0_0 ≤ (wrap64 (a0_0 + 1))
  ·rw [if_pos c3] at H
   have c3b0 := eq_true c3
   have c3b1 : decide (a0_0 ≤ (wrap64 (a0_0 + 1))) = true := decide_eq_true c3
   by_cases c4 : (wrap64 (a0_0 + 1)) ≤ 9
   ·rw [if_pos c4] at H
    have c4b0 := eq_true c4
    have c4b1 : decide ((wrap64 (a0_0 + 1)) ≤ 9) = true := decide_eq_true c4
    have HC5 := Aside0.mk H
    clear H
    go_enter Try.func16, Try.ntmps16
    go_upto_if 14 with (first | ((with_reducible refine gate_dst (N := 1) rfl ?_); refine box_event ?hg (N := 1) ?hd (cs := #[.int .i64 a0_0, .string a0_1, .slice A0_2 l0_2.length c0_2]) (t := 39) ?hr ?_; (case hd => rfl); (case hg => rfl); (case hr => first | (go_simp; done) | (go_simp; rfl)); intro gb776 hg w6 hbox hb; have n0_ := Aside0.mk (below_step (by repeat (first | (with_reducible first | exact HB.out | apply below_alloc | apply pw_below_drewN | apply below_drew1) | exact HB.out)) hb); have n1_ := Aside0.mk (hbox); have n2_ := Aside0.mk ((by rw [hg]; exact (below_size (by repeat (first | (with_reducible first | exact HB.out | apply below_alloc | apply pw_below_drewN | apply below_drew1) | exact HB.out))) : w.heap.size ≤ gb776)); have n3_ := Aside0.mk ((by rw [hg]; exact (below_size (by repeat (first | (with_reducible first | exact HB.out | apply below_alloc | apply pw_below_drewN | apply below_drew1) | exact HB.out))) : w.heap.size ≤ gb776)); clear HB; have HB := n0_; have BK776 := n1_; have GW776 := n2_; have GE776 := n3_; clear n0_ n1_ n2_ n3_; clear hb hbox hg; have hcz7_0 : w6.cell? ⟨gb776, 0, none⟩ = some (.int .i64 a0_0) := (blk_cell BK776.out 0).trans rfl; have hcz7_1 : w6.cell? ⟨gb776, 1, none⟩ = some (.string a0_1) := (blk_cell BK776.out 1).trans rfl; have hcz7_2 : w6.cell? ⟨gb776, 2, none⟩ = some (.slice A0_2 l0_2.length c0_2) := (blk_cell BK776.out 2).trans rfl; have hfz7_0 := blk_frozen BK776.out 0; have hfz7_1 := blk_frozen BK776.out 1; have hfz7_2 := blk_frozen BK776.out 2))
    (try simp only [Act.put, List.setIfInBounds_toArray, List.set_cons_zero, List.set_cons_succ])
    go_cut [3] (fun v3 wc => ∃ (kq : Nat) (x3_4 : ByteArray), v3 = .string x3_4 ∧ Aside0 (scriberef09_Print.j0 kq x3_4 a0_0 a0_1 l0_2 = some r) ∧ Aside0 (kq ≤ k) ∧ Aside0 (wc.heap[gb776]? = some (.cells #[.int .i64 a0_0, .string a0_1, (.slice A0_2 l0_2.length c0_2)] 39 (0, 0))) ∧ Aside0 (Below w.heap.size w wc))
    case first =>
     have H := HC5.out
     clear HC5
     by_cases c8 : a0_0 = 1
     ·rw [if_pos c8] at H
      have c8b0 : (a0_0 == 1) = true := beq_iff_eq.mpr c8
      have c8b1 : (a0_0 != 1) = false := bne_eq_false_iff_eq.mpr c8
      clear c8
      (first | rw [c8b0] | (simp only [i64_w, i32_w]; rw [c8b0]) | skip)
      replace H := Option.bind_eq_some_iff.mp H
      obtain ⟨t777, A90, H⟩ := H
      replace H : (if ((⟨#[101, 49, 38, 124, 42, 43, 63, 94, 36]⟩ : ByteArray).extract (a0_0 : Int).toNat ((wrap64 (a0_0 + 1)) : Int).toNat).size + t777.size ≤ 9223372036854775807 then (scriberef09_Print.j0 k (((⟨#[101, 49, 38, 124, 42, 43, 63, 94, 36]⟩ : ByteArray).extract (a0_0 : Int).toNat ((wrap64 (a0_0 + 1)) : Int).toNat) ++ t777) a0_0 a0_1 l0_2) else (none)) = some r := H
      have A9 := Aside0.mk A90
      clear A90
      by_cases c10 : ((⟨#[101, 49, 38, 124, 42, 43, 63, 94, 36]⟩ : ByteArray).extract (a0_0 : Int).toNat ((wrap64 (a0_0 + 1)) : Int).toNat).size + t777.size ≤ 9223372036854775807
      ·rw [if_pos c10] at H
       have c10b0 := eq_true c10
       have c10b1 : decide (((⟨#[101, 49, 38, 124, 42, 43, 63, 94, 36]⟩ : ByteArray).extract (a0_0 : Int).toNat ((wrap64 (a0_0 + 1)) : Int).toNat).size + t777.size ≤ 9223372036854775807) = true := decide_eq_true c10
       try have c10b2 : (9223372036854775807 < ((⟨#[101, 49, 38, 124, 42, 43, 63, 94, 36]⟩ : ByteArray).extract (a0_0 : Int).toNat ((wrap64 (a0_0 + 1)) : Int).toNat).size + t777.size) = False := eq_false (Nat.not_lt.2 c10)
       try (have c10b3 := c10b2; simp only [ByteArray.size_append', ba_size_mk, List.size_toArray, List.length_cons, List.length_nil, Nat.zero_add, Nat.reduceAdd, ByteArray.size_extract, Nat.min_self, Nat.sub_zero] at c10b3)
       (try (have c10b5 := c10b3; rw [Nat.min_eq_left (by omega)] at c10b5))
       have H' := Aside0.mk H
       clear H
       have hcz11_0 : w6.cell? ⟨gb776, 0, none⟩ = some (.int .i64 a0_0) := (blk_cell BK776.out 0).trans rfl
       have hcz11_1 : w6.cell? ⟨gb776, 1, none⟩ = some (.string a0_1) := (blk_cell BK776.out 1).trans rfl
       have hcz11_2 : w6.cell? ⟨gb776, 2, none⟩ = some (.slice A0_2 l0_2.length c0_2) := (blk_cell BK776.out 2).trans rfl
       have hfz11_0 := blk_frozen BK776.out 0
       have hfz11_1 := blk_frozen BK776.out 1
       have hfz11_2 := blk_frozen BK776.out 2
       go_wp2_with (first | ((with_reducible refine gate_callee (f := 21) rfl ?_); refine goesL_ (some 18) rfl rfl Try.func21 (by kernel_rfl) rfl #[.string a0_1] rfl (by (try simp only [List.map_toArray, List.map_cons, List.map_nil]); first | done | rfl | (simp only [List.length_drop, List.length_take]; rfl)) ?_; (with_reducible refine (scriberef09_Words.calls k a0_1 t777 _ ?side1 A9.out).mono ?_); (case side1 => exact TB.below hT (by repeat (first | (with_reducible first | exact HB.out | apply below_alloc | apply pw_below_drewN | apply below_drew1 | refine below_set ?_ GE776.out) | exact HB.out))); rintro e w12 ⟨rfl, hb⟩; refine ⟨_, rfl, ?_⟩; have n0_ := Aside0.mk (blk_below (g := gb776) (o := .cells #[.int .i64 a0_0, .string a0_1, .slice A0_2 l0_2.length c0_2] 39 (0, 0)) (by (with_reducible repeat (first | refine blk_drewN ?_ _ | refine blk_drew ?_ | refine blk_alloc ?_ _)); exact BK776.out) hb); have n1_ := Aside0.mk (below_step (by repeat (first | (with_reducible first | exact HB.out | apply below_alloc | apply pw_below_drewN | apply below_drew1 | refine below_set ?_ GE776.out) | exact HB.out)) hb); clear BK776; clear HB; have BK776 := n0_; have HB := n1_; clear n0_ n1_; (try clear hb); (try clear hb2); (try clear hk); (try clear hi)))
       go_meet
       case rel => exact ⟨_, (((⟨#[101, 49, 38, 124, 42, 43, 63, 94, 36]⟩ : ByteArray).extract (a0_0 : Int).toNat ((wrap64 (a0_0 + 1)) : Int).toNat) ++ t777), (by first | rfl | (simp; done) | (simp [*]; done) | (simp; unfold wrap64; omega)), H', ⟨by first | omega | exact Nat.le_refl _⟩, ⟨by (with_reducible repeat (first | refine blk_drewN ?_ _ | refine blk_drew ?_ | refine blk_alloc ?_ _)); exact BK776.out⟩, ⟨by repeat (first | (with_reducible first | exact HB.out | apply below_alloc | apply pw_below_drewN | apply below_drew1 | refine below_set ?_ GE776.out) | exact HB.out)⟩⟩
      ·rw [if_neg c10] at H
       exact absurd H (by simp)
     ·rw [if_neg c8] at H
      have c8b0 : (a0_0 == 1) = false := beq_eq_false_iff_ne.mpr c8
      have c8b1 : (a0_0 != 1) = true := bne_iff_ne.mpr c8
      (first | rw [c8b0] | (simp only [i64_w, i32_w]; rw [c8b0]) | skip)
      have H' := Aside0.mk H
      clear H
      go_wp2
      go_meet
      case rel => exact ⟨_, ((⟨#[101, 49, 38, 124, 42, 43, 63, 94, 36]⟩ : ByteArray).extract (a0_0 : Int).toNat ((wrap64 (a0_0 + 1)) : Int).toNat), (by first | rfl | (simp; done) | (simp [*]; done) | (simp; unfold wrap64; omega)), H', ⟨by first | omega | exact Nat.le_refl _⟩, ⟨by (with_reducible repeat (first | refine blk_drewN ?_ _ | refine blk_drew ?_ | refine blk_alloc ?_ _)); exact BK776.out⟩, ⟨by repeat (first | (with_reducible first | exact HB.out | apply below_alloc | apply pw_below_drewN | apply below_drew1 | refine below_set ?_ GE776.out) | exact HB.out)⟩⟩
    case rest =>
     clear HC5
     try clear c1
     try clear c2
     try clear c2b0
     try clear c2b1
     try clear p2
     try clear c3
     try clear c3b0
     try clear c3b1
     try clear c4
     try clear c4b0
     try clear c4b1
     try clear p6
     try clear c8
     try clear c8b0
     try clear c8b1
     try clear c10
     try clear c10b0
     try clear c10b1
     try clear c10b2
     try clear hcz11_0
     try clear hcz11_1
     try clear hcz11_2
     try clear hcz7_0
     try clear hcz7_1
     try clear hcz7_2
     try clear hfz11_0
     try clear hfz11_1
     try clear hfz11_2
     try clear hfz7_0
     try clear hfz7_1
     try clear hfz7_2
     obtain ⟨kq, x3_4, rfl, HA, HJ4, BK776, HB⟩ := hcut
     cases kq with
     | zero => exact absurd HA.out (by simp [scriberef09_Print.j0])
     | succ kj4 =>
      have H := HA.out
      clear HA
      simp only [scriberef09_Print.j0] at H
      have H' := Aside0.mk H
      clear H
      have hcz13_0 : wc.cell? ⟨gb776, 0, none⟩ = some (.int .i64 a0_0) := (blk_cell BK776.out 0).trans rfl
      have hcz13_1 : wc.cell? ⟨gb776, 1, none⟩ = some (.string a0_1) := (blk_cell BK776.out 1).trans rfl
      have hcz13_2 : wc.cell? ⟨gb776, 2, none⟩ = some (.slice A0_2 l0_2.length c0_2) := (blk_cell BK776.out 2).trans rfl
      have hfz13_0 := blk_frozen BK776.out 0
      have hfz13_1 := blk_frozen BK776.out 1
      have hfz13_2 := blk_frozen BK776.out 2
      go_wp2
      go_loopg [3, 23] kj4 (fun kq v3 v23 w' => ∃ (x3_2 : ByteArray) (x23_2 : Int), v3 = .string x3_2 ∧ v23 = .int .i64 x23_2 ∧ Aside0 (scriberef09_Print.l0 kq x3_2 l0_2 (l0_2.length : Int) x23_2 = some r) ∧ Aside0 (kq ≤ kj4) ∧ Aside0 (w'.heap[gb776]? = some (.cells #[.int .i64 a0_0, .string a0_1, (.slice A0_2 l0_2.length c0_2)] 39 (0, 0))) ∧ Aside0 (Below w.heap.size w w'))
      case atStart => exact ⟨(x3_4), (0), (by first | rfl | (simp; done) | (simp [*]; done) | (simp; unfold wrap64; omega)), (by first | rfl | (simp; done) | (simp [*]; done) | (simp; unfold wrap64; omega)), H', ⟨Nat.le_refl _⟩, ⟨by (with_reducible repeat (first | refine blk_drewN ?_ _ | refine blk_drew ?_ | refine blk_alloc ?_ _)); exact BK776.out⟩, ⟨by repeat (first | (with_reducible first | exact HB.out | apply below_alloc | apply pw_below_drewN | apply below_drew1 | refine below_set ?_ GE776.out) | exact HB.out)⟩⟩
      case round =>
       clear H'
       try clear c1
       try clear c2
       try clear c2b0
       try clear c2b1
       try clear p2
       try clear c3
       try clear c3b0
       try clear c3b1
       try clear c4
       try clear c4b0
       try clear c4b1
       try clear p6
       try clear c8
       try clear c8b0
       try clear c8b1
       try clear c10
       try clear c10b0
       try clear c10b1
       try clear c10b2
       try clear hcz11_0
       try clear hcz11_1
       try clear hcz11_2
       try clear hcz13_0
       try clear hcz13_1
       try clear hcz13_2
       try clear hcz7_0
       try clear hcz7_1
       try clear hcz7_2
       try clear hfz11_0
       try clear hfz11_1
       try clear hfz11_2
       try clear hfz13_0
       try clear hfz13_1
       try clear hfz13_2
       try clear hfz7_0
       try clear hfz7_1
       try clear hfz7_2
       try clear p2
       try clear p6
       obtain ⟨x3_2, x23_2, rfl, rfl, HA, HK2, BK776, HB⟩ := hrel
       cases gk with
       | zero => exact absurd HA.out (by simp [scriberef09_Print.l0])
       | succ k2 =>
        have H := HA.out
        clear HA
        simp only [scriberef09_Print.l0] at H
        by_cases c14 : x23_2 < (l0_2.length : Int)
        ·rw [if_pos c14] at H
         have c14b0 : decide (x23_2 < (l0_2.length : Int)) = true := decide_eq_true c14
         clear c14
         by_cases c15 : 0 ≤ x23_2
         ·rw [if_pos c15] at H
          have c15b0 : decide (0 ≤ x23_2) = true := decide_eq_true c15
          clear c15
          by_cases c16 : x23_2 < (l0_2.length : Int)
          ·rw [if_pos c16] at H
           have c16b0 : decide (x23_2 < (l0_2.length : Int)) = true := decide_eq_true c16
           clear c16
           replace H := Option.bind_eq_some_iff.mp H
           obtain ⟨t780, A170, H⟩ := H
           replace H : (if 1 + t780.size ≤ 9223372036854775807 then (if ((⟨#[40]⟩ : ByteArray) ++ t780).size + 1 ≤ 9223372036854775807 then (if x3_2.size + (((⟨#[40]⟩ : ByteArray) ++ t780) ++ (⟨#[41]⟩ : ByteArray)).size ≤ 9223372036854775807 then (scriberef09_Print.l0 k2 (x3_2 ++ (((⟨#[40]⟩ : ByteArray) ++ t780) ++ (⟨#[41]⟩ : ByteArray))) l0_2 (l0_2.length : Int) (wrap64 (x23_2 + 1))) else (none)) else (none)) else (none)) = some r := H
           have A17 := Aside0.mk A170
           clear A170
           by_cases c18 : 1 + t780.size ≤ 9223372036854775807
           ·rw [if_pos c18] at H
            have c18b0 := eq_true c18
            have c18b1 : decide (1 + t780.size ≤ 9223372036854775807) = true := decide_eq_true c18
            try have c18b2 : (9223372036854775807 < 1 + t780.size) = False := eq_false (Nat.not_lt.2 c18)
            try (have c18b3 := c18b2; simp only [ByteArray.size_append', ba_size_mk, List.size_toArray, List.length_cons, List.length_nil, Nat.zero_add, Nat.reduceAdd, ByteArray.size_extract, Nat.min_self, Nat.sub_zero] at c18b3)
            (try (have c18b5 := c18b3; rw [Nat.min_eq_left (by omega)] at c18b5))
            by_cases c19 : ((⟨#[40]⟩ : ByteArray) ++ t780).size + 1 ≤ 9223372036854775807
            ·rw [if_pos c19] at H
             have c19b0 := eq_true c19
             have c19b1 : decide (((⟨#[40]⟩ : ByteArray) ++ t780).size + 1 ≤ 9223372036854775807) = true := decide_eq_true c19
             try have c19b2 : (9223372036854775807 < ((⟨#[40]⟩ : ByteArray) ++ t780).size + 1) = False := eq_false (Nat.not_lt.2 c19)
             try (have c19b3 := c19b2; simp only [ByteArray.size_append', ba_size_mk, List.size_toArray, List.length_cons, List.length_nil, Nat.zero_add, Nat.reduceAdd, ByteArray.size_extract, Nat.min_self, Nat.sub_zero] at c19b3)
             (try (have c19b5 := c19b3; rw [Nat.min_eq_left (by omega)] at c19b5))
             by_cases c20 : x3_2.size + (((⟨#[40]⟩ : ByteArray) ++ t780) ++ (⟨#[41]⟩ : ByteArray)).size ≤ 9223372036854775807
             ·rw [if_pos c20] at H
              have c20b0 := eq_true c20
              have c20b1 : decide (x3_2.size + (((⟨#[40]⟩ : ByteArray) ++ t780) ++ (⟨#[41]⟩ : ByteArray)).size ≤ 9223372036854775807) = true := decide_eq_true c20
              try have c20b2 : (9223372036854775807 < x3_2.size + (((⟨#[40]⟩ : ByteArray) ++ t780) ++ (⟨#[41]⟩ : ByteArray)).size) = False := eq_false (Nat.not_lt.2 c20)
              try (have c20b3 := c20b2; simp only [ByteArray.size_append', ba_size_mk, List.size_toArray, List.length_cons, List.length_nil, Nat.zero_add, Nat.reduceAdd, ByteArray.size_extract, Nat.min_self, Nat.sub_zero] at c20b3)
              (try (have c20b5 := c20b3; rw [Nat.min_eq_left (by omega)] at c20b5))
              have H' := Aside0.mk H
              clear H
              have p778 : 0 ≤ (x23_2 : Int) := of_decide_eq_true (by first | (with_reducible assumption) | assumption)
              have q778 : x23_2 < (l0_2.length : Int) := of_decide_eq_true (by first | (with_reducible assumption) | assumption)
              obtain ⟨ad778, A778_2, c778_2, e778, hx778_0, hx778_1, hx778_2, hl778_2, hi778_2⟩ := at_T39 HR0_2.out x23_2 p778 q778
              cases e778
              replace hx778_0 := (HB.out.cell (World.block_lt_of_cell? w _ hx778_0)).trans hx778_0
              replace hx778_1 := (HB.out.cell (World.block_lt_of_cell? w _ hx778_1)).trans hx778_1
              replace hx778_2 := (HB.out.cell (World.block_lt_of_cell? w _ hx778_2)).trans hx778_2
              have HR778_2 := Aside0.mk hi778_2
              have HC778_2 := Aside0.mk hl778_2
              clear hi778_2 hl778_2
              replace p778 := eq_true p778
              replace q778 := eq_true q778
              go_wp2_with (first | ((with_reducible refine gate_dst (N := 5) rfl ?_); refine box_event ?hg (N := 5) ?hd (cs := #[.int .i64 0, .string (⟨#[]⟩ : ByteArray), .slice none 0 0]) (t := 39) ?hr ?_; (case hd => rfl); (case hg => rfl); (case hr => first | (go_simp; done) | (go_simp; rfl)); intro gb779 hg w21 hbox hb; have n0_ := Aside0.mk (blk_below (g := gb776) (o := .cells #[.int .i64 a0_0, .string a0_1, .slice (some ad778) l0_2.length c0_2] 39 (0, 0)) (by (with_reducible repeat (first | refine blk_drewN ?_ _ | refine blk_drew ?_ | refine blk_alloc ?_ _)); exact BK776.out) hb); have n1_ := Aside0.mk (below_step (by repeat (first | (with_reducible first | exact HB.out | apply below_alloc | apply pw_below_drewN | apply below_drew1 | refine below_set ?_ GE776.out) | exact HB.out)) hb); have n2_ := Aside0.mk (hbox); have n3_ := Aside0.mk ((by rw [hg]; exact (below_size (by repeat (first | (with_reducible first | exact HB.out | apply below_alloc | apply pw_below_drewN | apply below_drew1 | refine below_set ?_ GE776.out) | exact HB.out))) : w.heap.size ≤ gb779)); have n4_ := Aside0.mk ((by rw [hg]; exact (below_size (by repeat (first | (with_reducible first | exact HB.out | apply below_alloc | apply pw_below_drewN | apply below_drew1 | refine below_set ?_ GE776.out) | exact HB.out))) : w.heap.size ≤ gb779)); have n5_ := Aside0.mk ((by rw [hg]; exact Nat.ne_of_lt (blk_lt (g := gb776) (o := .cells #[.int .i64 a0_0, .string a0_1, .slice (some ad778) l0_2.length c0_2] 39 (0, 0)) (by (with_reducible repeat (first | refine blk_drewN ?_ _ | refine blk_drew ?_ | refine blk_alloc ?_ _)); exact BK776.out)) : gb776 ≠ gb779)); have n6_ := Aside0.mk ((by rw [hg]; exact Nat.ne_of_gt (blk_lt (g := gb776) (o := .cells #[.int .i64 a0_0, .string a0_1, .slice (some ad778) l0_2.length c0_2] 39 (0, 0)) (by (with_reducible repeat (first | refine blk_drewN ?_ _ | refine blk_drew ?_ | refine blk_alloc ?_ _)); exact BK776.out)) : gb779 ≠ gb776)); clear BK776; clear HB; have BK776 := n0_; have HB := n1_; have BK779 := n2_; have GW779 := n3_; have GE779 := n4_; have NB776_779 := n5_; have NB779_776 := n6_; clear n0_ n1_ n2_ n3_ n4_ n5_ n6_; clear hb hbox hg; have hnb22 := NB779_776.out; have hnc22 := NB776_779.out; have hcz23_0 : w21.cell? ⟨gb779, 0, none⟩ = some (.int .i64 0) := (blk_cell BK779.out 0).trans rfl; have hcz23_1 : w21.cell? ⟨gb779, 1, none⟩ = some (.string (⟨#[]⟩ : ByteArray)) := (blk_cell BK779.out 1).trans rfl; have hcz23_2 : w21.cell? ⟨gb779, 2, none⟩ = some (.slice none 0 0) := (blk_cell BK779.out 2).trans rfl; have hfz23_0 := blk_frozen BK779.out 0; have hfz23_1 := blk_frozen BK779.out 1; have hfz23_2 := blk_frozen BK779.out 2) | ((with_reducible refine gate_callee (f := 16) rfl ?_); refine goesL_ (some 29) rfl rfl Try.func16 (by kernel_rfl) rfl #[.agg #[.int .i64 ((rd_T39 l0_2 x23_2).f0), .string ((rd_T39 l0_2 x23_2).f1), .slice A778_2 ((rd_T39 l0_2 x23_2).f2).length c778_2]] rfl (by (try simp only [List.map_toArray, List.map_cons, List.map_nil]); first | done | rfl | (simp only [List.length_drop, List.length_take]; rfl)) ?_; (with_reducible refine (ih k2 (by have := HJ4.out; have := HK2.out; omega) ((rd_T39 l0_2 x23_2).f0) ((rd_T39 l0_2 x23_2).f1) _ _ ((rd_T39 l0_2 x23_2).f2) t780 _ ?side1 ?side2 ?side3 A17.out).mono ?_); (case side1 => exact Kd.C_below HR778_2.out (by repeat (first | (with_reducible first | exact HB.out | apply below_alloc | apply pw_below_drewN | apply below_drew1 | refine below_set ?_ GE776.out | refine below_set ?_ GE779.out) | exact HB.out))); (case side2 => exact HC778_2.out); (case side3 => exact TB.below hT (by repeat (first | (with_reducible first | exact HB.out | apply below_alloc | apply pw_below_drewN | apply below_drew1 | refine below_set ?_ GE776.out | refine below_set ?_ GE779.out) | exact HB.out))); rintro e w24 ⟨rfl, hb⟩; refine ⟨_, rfl, ?_⟩; have n0_ := Aside0.mk (blk_below (g := gb776) (o := .cells #[.int .i64 a0_0, .string a0_1, .slice (some ad778) l0_2.length c0_2] 39 (0, 0)) (by (with_reducible repeat (first | refine blk_drewN ?_ _ | refine blk_drew ?_ | refine blk_alloc ?_ _)); refine blk_far ?_ NB776_779.out _; (with_reducible repeat (first | refine blk_drewN ?_ _ | refine blk_drew ?_ | refine blk_alloc ?_ _)); refine blk_far ?_ NB776_779.out _; (with_reducible repeat (first | refine blk_drewN ?_ _ | refine blk_drew ?_ | refine blk_alloc ?_ _)); refine blk_far ?_ NB776_779.out _; (with_reducible repeat (first | refine blk_drewN ?_ _ | refine blk_drew ?_ | refine blk_alloc ?_ _)); exact BK776.out) hb); have n1_ := Aside0.mk (blk_below (g := gb779) (o := .cells #[.int .i64 ((rd_T39 l0_2 x23_2).f0), .string ((rd_T39 l0_2 x23_2).f1), .slice A778_2 ((rd_T39 l0_2 x23_2).f2).length c778_2] 39 (0, 0)) (by (with_reducible repeat (first | refine blk_drewN ?_ _ | refine blk_drew ?_ | refine blk_alloc ?_ _)); refine blk_put (cs := #[.int .i64 ((rd_T39 l0_2 x23_2).f0), .string ((rd_T39 l0_2 x23_2).f1), .slice none 0 0]) ?_ 2 _ rfl; (with_reducible repeat (first | refine blk_drewN ?_ _ | refine blk_drew ?_ | refine blk_alloc ?_ _)); refine blk_put (cs := #[.int .i64 ((rd_T39 l0_2 x23_2).f0), .string (⟨#[]⟩ : ByteArray), .slice none 0 0]) ?_ 1 _ rfl; (with_reducible repeat (first | refine blk_drewN ?_ _ | refine blk_drew ?_ | refine blk_alloc ?_ _)); refine blk_put (cs := #[.int .i64 0, .string (⟨#[]⟩ : ByteArray), .slice none 0 0]) ?_ 0 _ rfl; (with_reducible repeat (first | refine blk_drewN ?_ _ | refine blk_drew ?_ | refine blk_alloc ?_ _)); exact BK779.out) hb); have n2_ := Aside0.mk (below_step (by repeat (first | (with_reducible first | exact HB.out | apply below_alloc | apply pw_below_drewN | apply below_drew1 | refine below_set ?_ GE776.out | refine below_set ?_ GE779.out) | exact HB.out)) hb); clear BK776; clear BK779; clear HB; have BK776 := n0_; have BK779 := n1_; have HB := n2_; clear n0_ n1_ n2_; (try clear hb); (try clear hb2); (try clear hk); (try clear hi)))
              go_roundg k2
              case measure => have := HJ4.out; have := HK2.out; omega
              case rel => exact ⟨(x3_2 ++ (((⟨#[40]⟩ : ByteArray) ++ t780) ++ (⟨#[41]⟩ : ByteArray))), (wrap64 (x23_2 + 1)), (by first | rfl | (simp; done) | (simp [*]; done) | (simp; unfold wrap64; omega)), (by first | rfl | (simp; done) | (simp [*]; done) | (simp; unfold wrap64; omega)), H', ⟨by have := HJ4.out; have := HK2.out; omega⟩, ⟨by (with_reducible repeat (first | refine blk_drewN ?_ _ | refine blk_drew ?_ | refine blk_alloc ?_ _)); exact BK776.out⟩, ⟨by repeat (first | (with_reducible first | exact HB.out | apply below_alloc | apply pw_below_drewN | apply below_drew1 | refine below_set ?_ GE776.out | refine below_set ?_ GE779.out) | exact HB.out)⟩⟩
             ·rw [if_neg c20] at H
              exact absurd H (by simp)
            ·rw [if_neg c19] at H
             exact absurd H (by simp)
           ·rw [if_neg c18] at H
            exact absurd H (by simp)
          ·rw [if_neg c16] at H
           exact absurd H (by simp)
         ·rw [if_neg c15] at H
          exact absurd H (by simp)
        ·rw [if_neg c14] at H
         have c14b0 : decide (x23_2 < (l0_2.length : Int)) = false := decide_eq_false c14
         clear c14
         obtain rfl := Option.some.inj H
         go_wp2
         go_ret
         exact ⟨by first | rfl | (simp [errW_none, errW_some] <;> rfl) | (simp [errW_none, errW_some] <;> first | rfl | exact isEmpty_bne _) | (simp [*, errW_none, errW_some] <;> rfl), by repeat (first | (with_reducible first | exact HB.out | apply below_alloc | apply pw_below_drewN | apply below_drew1 | refine below_set ?_ GE776.out) | exact HB.out)⟩
   ·rw [if_neg c4] at H
    exact absurd H (by simp)
  ·rw [if_neg c3] at H
   exact absurd H (by simp)
 ·rw [if_neg c2] at H
  exact absurd H (by simp)

end Go.Proofs.Ytdjnjhmmpjbbaaa.Pr
