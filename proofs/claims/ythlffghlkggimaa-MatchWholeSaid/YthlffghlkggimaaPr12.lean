/- The machine's side, written by a patched print (wip/tools): each theorem says that a call of the Go function comes to what the Lean function beside it computes, where the tables are laid (TB). -/
import Derived.Test.YthlffghlkggimaaPr0
import Derived.Test.YthlffghlkggimaaPr11
namespace Go.Proofs.Ythlffghlkggimaa.Pr
open Go.RowKit Go.Proofs.YthlffghlkggimaaW.PrintWords Go.Proofs.YthlffghlkggimaaW.PrintLast Go.Proofs.YthlffghlkggimaaW.PrintMore
attribute [local go_sem] fld30_0 fld30_1 fld30_2 fld58_0 fld58_1 fld58_2 fld58_3 fld58_4 fld66_0 fld66_1 fld76_0 fld76_1 fld76_2 fld76_3 fld76_4 fld84_0 fld84_1 fld84_2 fld84_3 fld93_0 fld93_1 fld93_2 fld9000_0 fld9000_1 fld9000_2 fld9000_3 fld9000_4 binOp_string_gtr2 binOp_string_leq2 binOp_string_geq2 max2_int min2_int max_two min_two max_three min_three max_four min_four   -- for this text's walks alone
set_option linter.unusedVariables false
set_option linter.unusedSimpArgs false
theorem qe0 {P : Prop} (h : P := by repeat (first | (with_reducible first | exact HK.out | apply Kept.alloc | apply Kept.drewN | apply Kept.drew | refine Kept.setCell ?_ (.inl (.inr rfl)) _ | refine Kept.setCell ?_ (.inr GW383.out) _) | exact HK.out)) : P := h
theorem qe1 {P : Prop} (h : P := by first | exact (by (with_reducible repeat (first | apply Kd.R_alloc | apply Kd.R_drewN | apply Kd.R_drew)); exact HO_1.out) | (simp only [hl1_27]; exact (by (with_reducible repeat (first | apply Kd.R_alloc | apply Kd.R_drewN | apply Kd.R_drew)); exact HO_1.out))) : P := h
theorem qe2 {P : Prop} (h : P := by repeat (first | (with_reducible first | exact HB.out | apply below_alloc | apply pw_below_drewN | apply below_drew1 | refine below_set ?_ (IsS66.ge HI0.out)) | exact HB.out)) : P := h
theorem qe3 {P : Prop} (h : P := by repeat (first | (with_reducible first | exact HK.out | apply Kept.alloc | apply Kept.drewN | apply Kept.drew | refine Kept.setCell ?_ (.inl (.inr rfl)) _) | exact HK.out)) : P := h
theorem qe4 {P : Prop} (h : P := by repeat (first | (with_reducible first | exact HI0.out | apply IsS66.alloc | apply IsS66.drewN | apply IsS66.drew | apply IsS66.set_1) | exact HI0.out)) : P := h
theorem qe5 {P : Prop} (h : P := by (try simp only [List.map_toArray, List.map_cons, List.map_nil]); first | done | rfl | (simp only [List.length_drop, List.length_take]; rfl)) : P := h
theorem qe6 {P : Prop} (h : P := by (with_reducible repeat (first | refine blk_drewN ?_ _ | refine blk_drew ?_ | refine blk_alloc ?_ _)); exact BK383.out) : P := h
theorem qe7 {P : Prop} (h : P := by first | exact HK.out.1 | exact (show Kept w _ (fun k_ => (P1_ k_) ∨ k_ = g) from by repeat (first | (with_reducible first | exact HK.out | apply Kept.alloc | apply Kept.drewN | apply Kept.drew | refine Kept.setCell ?_ (.inl (.inr rfl)) _) | exact HK.out)).1) : P := h

/-! ### match_Prog_close: function 24 -/
mutual
def match_Prog_close.j0 : Nat → List Int → Int → Bool → Bool → Bool → List (S68) → Int → Int → Int → Int → Int → Int → Int → Int → Option (Int × List Int)
 | 0, _, _, _, _, _, _, _, _, _, _, _, _, _, _ => none
 | k + 1, x1, x3, x4, x5, x50, x1000, x1001, x384000, x384001, x384002, x384003, x384004, x384005, x384006 => if x50 = true then ((match_Prog_close.f k x1000 x1001 x1 x384005 x3 x4 x5).bind fun bt388 => (some (bt388.1, bt388.2))) else (if x384000 = 3 then (if x5 = true then ((match_Prog_close.f k x1000 x1001 x1 x384005 x3 x4 x5).bind fun bt390 => (some (bt390.1, bt390.2))) else (some (x1001, x1))) else (some (x1001, x1)))
def match_Prog_close.f : Nat → List (S68) → Int → List Int → Int → Int → Bool → Bool → Option (Int × List Int)
 | 0, _, _, _, _, _, _, _ => none
 | k + 1, s0_0, s0_1, l1, a2, a3, a4, a5 => if 0 ≤ a2 then (if a2 < (l1.length : Int) then (if (rd l1 a2) ≤ a3 then (some (s0_1, l1)) else ((some (l1.set (a2 : Int).toNat a3 : List Int)).bind fun y381 => (if a2 < (s0_0.length : Int) then (if ((rd_T68 s0_0 a2).f0) = 1 then ((match_Prog_close.f k s0_0 s0_1 y381 ((rd_T68 s0_0 a2).f2) a3 a4 a5).bind fun bt384 => ((match_Prog_close.f k s0_0 bt384.1 bt384.2 ((rd_T68 s0_0 a2).f3) a3 a4 a5).bind fun bt386 => (some (bt386.1, bt386.2)))) else (if ((rd_T68 s0_0 a2).f0) = 2 then (match_Prog_close.j0 k y381 a3 a4 a5 a4 s0_0 s0_1 ((rd_T68 s0_0 a2).f0) ((rd_T68 s0_0 a2).f1.f0) ((rd_T68 s0_0 a2).f1.f1) ((rd_T68 s0_0 a2).f1.f2) ((rd_T68 s0_0 a2).f1.f3) ((rd_T68 s0_0 a2).f2) ((rd_T68 s0_0 a2).f3)) else (match_Prog_close.j0 k y381 a3 a4 a5 false s0_0 s0_1 ((rd_T68 s0_0 a2).f0) ((rd_T68 s0_0 a2).f1.f0) ((rd_T68 s0_0 a2).f1.f1) ((rd_T68 s0_0 a2).f1.f2) ((rd_T68 s0_0 a2).f1.f3) ((rd_T68 s0_0 a2).f2) ((rd_T68 s0_0 a2).f3)))) else (none)))) else (none)) else (none)
end
theorem match_Prog_close.mono_l : ∀ k, (∀ y0 y1 y2 y3 y4 y5 y6, LeO (match_Prog_close.f k y0 y1 y2 y3 y4 y5 y6) (match_Prog_close.f (k + 1) y0 y1 y2 y3 y4 y5 y6)) ∧ (∀ y0 y1 y2 y3 y4 y5 y6 y7 y8 y9 y10 y11 y12 y13, LeO (match_Prog_close.j0 k y0 y1 y2 y3 y4 y5 y6 y7 y8 y9 y10 y11 y12 y13) (match_Prog_close.j0 (k + 1) y0 y1 y2 y3 y4 y5 y6 y7 y8 y9 y10 y11 y12 y13))
 | 0 => ⟨fun _ _ _ _ _ _ _ r h => by simp [match_Prog_close.f] at h, fun _ _ _ _ _ _ _ _ _ _ _ _ _ _ r h => by simp [match_Prog_close.j0] at h⟩
 | k + 1 => by
  obtain ⟨ih0, ih1⟩ := match_Prog_close.mono_l k
  refine ⟨?_, ?_⟩
  ·intro y0 y1 y2 y3 y4 y5 y6
   unfold match_Prog_close.f
   repeat' first
   | (with_reducible exact ih0 _ _ _ _ _ _ _)
   | (with_reducible exact ih1 _ _ _ _ _ _ _ _ _ _ _ _ _ _)
   | (with_reducible exact LeO.refl _)
   | (with_reducible exact LeO.none _)
   | (with_reducible refine LeO.ite ?_ ?_)
   | (with_reducible refine LeO.bind ?_ (fun _ => ?_))
   | exact ih0 _ _ _ _ _ _ _
   | exact ih1 _ _ _ _ _ _ _ _ _ _ _ _ _ _
   | exact LeO.none _
   | refine LeO.ite ?_ ?_
   | refine LeO.bind ?_ (fun _ => ?_)
  ·intro y0 y1 y2 y3 y4 y5 y6 y7 y8 y9 y10 y11 y12 y13
   unfold match_Prog_close.j0
   repeat' first
   | (with_reducible exact ih0 _ _ _ _ _ _ _)
   | (with_reducible exact ih1 _ _ _ _ _ _ _ _ _ _ _ _ _ _)
   | (with_reducible exact LeO.refl _)
   | (with_reducible exact LeO.none _)
   | (with_reducible refine LeO.ite ?_ ?_)
   | (with_reducible refine LeO.bind ?_ (fun _ => ?_))
   | exact ih0 _ _ _ _ _ _ _
   | exact ih1 _ _ _ _ _ _ _ _ _ _ _ _ _ _
   | exact LeO.none _
   | refine LeO.ite ?_ ?_
   | refine LeO.bind ?_ (fun _ => ?_)
theorem match_Prog_close.mono : ∀ a0 a1 a2 a3 a4 a5 a6 k, LeO (match_Prog_close.f k a0 a1 a2 a3 a4 a5 a6) (match_Prog_close.f (k + 1) a0 a1 a2 a3 a4 a5 a6) := by
 intro a0 a1 a2 a3 a4 a5 a6 k
 obtain ⟨ih0, ih1⟩ := match_Prog_close.mono_l k
 exact ih0 a0 a1 a2 a3 a4 a5 a6
set_option maxHeartbeats 8000000 in
set_option maxRecDepth 100000 in
theorem match_Prog_close.calls (k : Nat) : ∀ (g : Nat) (s0_0 : List (S68)) (s0_1 : Int) (P1_ : Nat → Prop) (u9000_ : Value) (l1 : List Int) (a2 : Int) (a3 : Int) (a4 : Bool) (a5 : Bool) (r1 : Int) (r2 : List Int) (w0 w : World) (hI : IsS66 w0 w g s0_0 s0_1) (hB : Below w0.heap.size w0 w) (ho1 : Kd.R (Kd.int .i64) 3 w w0.heap.size P1_ u9000_ l1) (hT : TB w0) (h : match_Prog_close.f k s0_0 s0_1 l1 a2 a3 a4 a5 = some (r1, r2)),
  Calls Try.prog 24 #[.pointer (some ⟨g, 0, none⟩), u9000_, .int .i64 a2, .int .i64 a3, .bool a4, .bool a5] w fun e w' => e = .returned (.tuple #[]) ∧ IsS66 w0 w' g s0_0 r1 ∧ Kd.R (Kd.int .i64) 3 w' w0.heap.size (fun k_ => (P1_ k_ ∨ w.heap.size ≤ k_)) u9000_ r2 ∧ Below w0.heap.size w0 w' ∧ Kept w w' (fun k_ => (P1_ k_) ∨ k_ = g) := by
 induction k using Nat.strongRecOn with
 | _ k ih =>
 intro g s0_0 s0_1 P1_ u9000_ l1 a2 a3 a4 a5 r1 r2 w0 w hI hB ho1 hT h
 cases k with
 | zero => exact absurd h (by simp [match_Prog_close.f])
 | succ k =>
 simp only [match_Prog_close.f] at h
 have hu68 := Try.underlying68
 have HO1 := Aside0.mk (show Kd.R (Kd.int .i64) 3 w w0.heap.size (fun k_ => (P1_ k_ ∨ w.heap.size ≤ k_)) u9000_ l1 from Kd.R_mono ho1 (fun k_ hk => (.inl hk)))
 have HI0 := Aside0.mk hI
 have HL := Aside0.mk hB.size
 clear hI
 have HK := Aside0.mk (Kept.refl w (fun k_ => (P1_ k_) ∨ k_ = g))
 have HW0 := Aside0.mk hB.size
 have HB := Aside0.mk hB
 clear hB
 have H : (if 0 ≤ a2 then (if a2 < (l1.length : Int) then (if (rd l1 a2) ≤ a3 then (some (s0_1, l1)) else ((some (l1.set (a2 : Int).toNat a3 : List Int)).bind fun y381 => (if a2 < (s0_0.length : Int) then (if ((rd_T68 s0_0 a2).f0) = 1 then ((match_Prog_close.f k s0_0 s0_1 y381 ((rd_T68 s0_0 a2).f2) a3 a4 a5).bind fun bt384 => ((match_Prog_close.f k s0_0 bt384.1 bt384.2 ((rd_T68 s0_0 a2).f3) a3 a4 a5).bind fun bt386 => (some (bt386.1, bt386.2)))) else (if ((rd_T68 s0_0 a2).f0) = 2 then (match_Prog_close.j0 k y381 a3 a4 a5 a4 s0_0 s0_1 ((rd_T68 s0_0 a2).f0) ((rd_T68 s0_0 a2).f1.f0) ((rd_T68 s0_0 a2).f1.f1) ((rd_T68 s0_0 a2).f1.f2) ((rd_T68 s0_0 a2).f1.f3) ((rd_T68 s0_0 a2).f2) ((rd_T68 s0_0 a2).f3)) else (match_Prog_close.j0 k y381 a3 a4 a5 false s0_0 s0_1 ((rd_T68 s0_0 a2).f0) ((rd_T68 s0_0 a2).f1.f0) ((rd_T68 s0_0 a2).f1.f1) ((rd_T68 s0_0 a2).f1.f2) ((rd_T68 s0_0 a2).f1.f3) ((rd_T68 s0_0 a2).f2) ((rd_T68 s0_0 a2).f3)))) else (none)))) else (none)) else (none)) = some (r1, r2) := h
 clear h
 by_cases c7 : 0 ≤ a2
 ·rw [if_pos c7] at H
  have c7b0 : decide (0 ≤ a2) = true := decide_eq_true c7
  clear c7
  by_cases c8 : a2 < (l1.length : Int)
  ·rw [if_pos c8] at H
   have c8b0 : decide (a2 < (l1.length : Int)) = true := decide_eq_true c8
   clear c8
   by_cases c9 : (rd l1 a2) ≤ a3
   ·rw [if_pos c9] at H
    have c9b0 : decide ((rd l1 a2) ≤ a3) = true := decide_eq_true c9
    clear c9
    simp only [Option.some.injEq, Prod.mk.injEq] at H
    obtain ⟨rfl, rfl⟩ := H
    obtain ⟨Ao10, co10, eo10⟩ := Kd.R_slice HO1.out
    subst eo10
    have p380 : 0 ≤ (a2 : Int) := of_decide_eq_true (by first | (with_reducible assumption) | assumption)
    have qe380 : a2 < (l1.length : Int) := of_decide_eq_true (by first | (with_reducible assumption) | assumption)
    obtain ⟨ad380, e380, hx380_0⟩ := Kd.at_int (Kd.R_reads' HO1.out).2.2 a2 p380 qe380
    cases e380
    replace p380 := eq_true p380
    replace qe380 := eq_true qe380
    go_enter Try.func24, Try.ntmps24
    go_wp2
    first | go_end0 | ((try simp only [Exit.inBlock, Exit.then]); refine bodyPost_ret (results_none rfl _ _ _) rfl ?_)
    exact ⟨by first | rfl | (simp [errW_none, errW_some] <;> rfl) | (simp [errW_none, errW_some] <;> first | rfl | exact isEmpty_bne _) | (simp [*, errW_none, errW_some] <;> rfl), by repeat (first | (with_reducible first | exact HI0.out | apply IsS66.alloc | apply IsS66.drewN | apply IsS66.drew | apply IsS66.set_1) | exact HI0.out), by (with_reducible repeat (first | apply Kd.R_alloc | apply Kd.R_drewN | apply Kd.R_drew)); exact HO1.out, by repeat (first | (with_reducible first | exact HB.out | apply below_alloc | apply pw_below_drewN | apply below_drew1 | refine below_set ?_ (IsS66.ge HI0.out)) | exact HB.out), by repeat (first | (with_reducible first | exact HK.out | apply Kept.alloc | apply Kept.drewN | apply Kept.drew | refine Kept.setCell ?_ (.inl (.inr rfl)) _) | exact HK.out)⟩
   ·rw [if_neg c9] at H
    have c9b0 : decide ((rd l1 a2) ≤ a3) = false := decide_eq_false c9
    clear c9
    obtain ⟨y381, hy381⟩ : ∃ y_ : List Int, y_ = (l1.set (a2 : Int).toNat a3) := ⟨_, rfl⟩
    replace H : (if a2 < (s0_0.length : Int) then (if ((rd_T68 s0_0 a2).f0) = 1 then ((match_Prog_close.f k s0_0 s0_1 y381 ((rd_T68 s0_0 a2).f2) a3 a4 a5).bind fun bt384 => ((match_Prog_close.f k s0_0 bt384.1 bt384.2 ((rd_T68 s0_0 a2).f3) a3 a4 a5).bind fun bt386 => (some (bt386.1, bt386.2)))) else (if ((rd_T68 s0_0 a2).f0) = 2 then (match_Prog_close.j0 k y381 a3 a4 a5 a4 s0_0 s0_1 ((rd_T68 s0_0 a2).f0) ((rd_T68 s0_0 a2).f1.f0) ((rd_T68 s0_0 a2).f1.f1) ((rd_T68 s0_0 a2).f1.f2) ((rd_T68 s0_0 a2).f1.f3) ((rd_T68 s0_0 a2).f2) ((rd_T68 s0_0 a2).f3)) else (match_Prog_close.j0 k y381 a3 a4 a5 false s0_0 s0_1 ((rd_T68 s0_0 a2).f0) ((rd_T68 s0_0 a2).f1.f0) ((rd_T68 s0_0 a2).f1.f1) ((rd_T68 s0_0 a2).f1.f2) ((rd_T68 s0_0 a2).f1.f3) ((rd_T68 s0_0 a2).f2) ((rd_T68 s0_0 a2).f3)))) else (none)) = some (r1, r2) := by first | (rw [hy381]; with_reducible exact H) | (have H2_ := (Option.bind_some _ _).symm.trans H; rw [hy381]; with_reducible exact H2_) | (have H2_ := (Option.bind_some _ _).symm.trans H; with_reducible exact H2_) | with_reducible exact H | (rw [hy381]; exact H) | exact H
    have Ny381 := Aside0.mk hy381
    clear hy381
    by_cases c12 : a2 < (s0_0.length : Int)
    ·rw [if_pos c12] at H
     have c12b0 : decide (a2 < (s0_0.length : Int)) = true := decide_eq_true c12
     clear c12
     by_cases c13 : ((rd_T68 s0_0 a2).f0) = 1
     ·rw [if_pos c13] at H
      have c13b0 : (((rd_T68 s0_0 a2).f0) == 1) = true := beq_iff_eq.mpr c13
      have c13b1 : (((rd_T68 s0_0 a2).f0) != 1) = false := bne_eq_false_iff_eq.mpr c13
      clear c13
      replace H := Option.bind_eq_some_iff.mp H
      obtain ⟨⟨t384, t385⟩, A140, H⟩ := H
      replace H : ((match_Prog_close.f k s0_0 t384 t385 ((rd_T68 s0_0 a2).f3) a3 a4 a5).bind fun bt386 => (some (bt386.1, bt386.2))) = some (r1, r2) := H
      have A14 := Aside0.mk A140
      clear A140
      replace H := Option.bind_eq_some_iff.mp H
      obtain ⟨⟨t386, t387⟩, A150, H⟩ := H
      replace H : (some (t386, t387)) = some (r1, r2) := H
      have A15 := Aside0.mk A150
      clear A150
      simp only [Option.some.injEq, Prod.mk.injEq] at H
      obtain ⟨rfl, rfl⟩ := H
      obtain ⟨Ao16, co16, eo16⟩ := Kd.R_slice HO1.out
      subst eo16
      have p380 : 0 ≤ (a2 : Int) := of_decide_eq_true (by first | (with_reducible assumption) | assumption)
      have qe380 : a2 < (l1.length : Int) := of_decide_eq_true (by first | (with_reducible assumption) | assumption)
      obtain ⟨ad380, e380, hx380_0⟩ := Kd.at_int (Kd.R_reads' HO1.out).2.2 a2 p380 qe380
      cases e380
      replace p380 := eq_true p380
      replace qe380 := eq_true qe380
      have p11 : 0 ≤ (a2 : Int) := of_decide_eq_true (by first | (with_reducible assumption) | assumption)
      have qe11 : (a2 : Int) < ((l1.length : Int) : Int) := of_decide_eq_true (by first | (with_reducible assumption) | assumption)
      obtain ⟨go11, co11, eo11, gb11, gl11, cl11, HG11⟩ := Kd.R_form HO1.out (by omega)
      (first | cases eo11 | (injection eo11 with ea_ en_ ec_; (first | subst ea_ | (injection ea_ with ea_; subst ea_)); subst ec_; clear en_))
      have GB11 := Aside0.mk gb11
      have GG11 := Aside0.mk HG11
      clear gb11 gl11 HG11
      have HMgo11 := Aside0.mk (show (P1_ go11 ∨ w.heap.size ≤ go11) from (HO1.out.1 _ rfl))
      (first | simp only [add_plain] at hx380_0 | skip)
      obtain ⟨hx11_0, hf11_0⟩ := Kd.R_celln 0 HO1.out (a2 : Int) p11 qe11
      replace p11 := eq_true p11
      replace qe11 := eq_true qe11
      have HP17 := Kd.R_putg HO1.out (a2 : Int) a3
      go_enter Try.func24, Try.ntmps24
      go_wp2_with (first | ((with_reducible refine gate_store (t := 3) (p := 22) rfl ?_); refine store_event (t := 3) (p := 22) (v := ?vo_w18) (w1 := (w.setCell ⟨go11, (a2 : Int).toNat, none⟩ (.int .i64 a3))) ?hg ?ho ?hn ?hr ?_; (case ho => rfl); (case hg => rfl); (case hn => rfl); (case hr => first | (go_simp; done) | (go_simp; rfl)); intro w18 hw; have hg : w.grownBy w18 (some go11) := (by rw [hw]; exact HP17.2); have hp_ : Kd.R (Kd.int .i64) 3 w18 w0.heap.size (fun k_ => (P1_ k_ ∨ w.heap.size ≤ k_)) (.slice (some ⟨go11, 0, none⟩) l1.length co16) y381 := (by rw [hw, Ny381.out]; exact HP17.1); clear HP17; have n0_ := Aside0.mk (IsS66.grown qe4 hg (IsS66.own_ne HI0.out HO1.out (by decide))); have n1_ := Aside0.mk (hp_); have n2_ := Aside0.mk ((by rw [hw]; exact below_set (HB.out) GB11.out : Below w0.heap.size w0 w18)); have n3_ := Aside0.mk (Kept.of_grown (S := (fun k_ => (P1_ k_) ∨ k_ = g)) hg qe3 (fun k_ e_ => Or.imp_left Or.inl ((HO1.out.1 k_ e_)))); clear HI0; clear HO1; clear HB; clear HK; have HI0 := n0_; have HO1 := n1_; have HB := n2_; have HK := n3_; clear n0_ n1_ n2_ n3_; clear hg hw hp_; obtain ⟨ASz19_0, cSz19_0, HGz19, hgz19, HSz19_0⟩ := HI0.out; have hcz19_0 := cellS66_0 HGz19; have hcz19_1 := cellS66_1 HGz19; have hfz19_1 := blk_frozen HGz19 1; clear HGz19 hgz19; have p382 : 0 ≤ (a2 : Int) := of_decide_eq_true (by first | (with_reducible assumption) | assumption); have qe382 : a2 < (s0_0.length : Int) := of_decide_eq_true (by first | (with_reducible assumption) | assumption); obtain ⟨ad382, e382, hx382_0, hx382_1, hx382_2, hx382_3, hx382_4, hx382_5, hx382_6⟩ := at_T68 HSz19_0 a2 p382 qe382; cases e382; replace hx382_0 := pw_cell_below HB.out hx382_0; replace hx382_1 := pw_cell_below HB.out hx382_1; replace hx382_2 := pw_cell_below HB.out hx382_2; replace hx382_3 := pw_cell_below HB.out hx382_3; replace hx382_4 := pw_cell_below HB.out hx382_4; replace hx382_5 := pw_cell_below HB.out hx382_5; replace hx382_6 := pw_cell_below HB.out hx382_6; replace p382 := eq_true p382; replace qe382 := eq_true qe382) | ((with_reducible refine gate_dst (N := 12) rfl ?_); refine box_event ?hg (N := 12) ?hd (cs := #[.int .i64 0, .int .u64 0, .int .u64 0, .int .u64 0, .int .u64 0, .int .i64 0, .int .i64 0]) (t := 68) ?hr ?_; (case hd => rfl); (case hg => rfl); (case hr => first | (go_simp; done) | (go_simp; rfl)); intro gb383 hg w20 hbox hb; have n0_ := Aside0.mk (Kd.R_below (by (with_reducible repeat (first | apply Kd.R_alloc | apply Kd.R_drewN | apply Kd.R_drew)); exact HO1.out) hb); have n1_ := Aside0.mk (IsS66.below qe4 hb); have n2_ := Aside0.mk (Kept.below (S := (fun k_ => (P1_ k_) ∨ k_ = g)) qe3 hb); have n3_ := Aside0.mk (below_step qe2 hb); have n4_ := Aside0.mk (hbox); have n5_ := Aside0.mk ((by rw [hg]; exact qe7 : w.heap.size ≤ gb383)); have n6_ := Aside0.mk ((by rw [hg]; exact (below_size qe2) : w0.heap.size ≤ gb383)); have n7_ := Aside0.mk ((by rw [hg]; exact Nat.ne_of_lt (IsS66.lt (show IsS66 w0 _ g s0_0 s0_1 from by repeat (first | (with_reducible first | exact HI0.out | apply IsS66.alloc | apply IsS66.drewN | apply IsS66.drew | apply IsS66.set_1) | exact HI0.out))) : g ≠ gb383)); have n8_ := Aside0.mk ((by rw [hg]; exact Nat.ne_of_gt (IsS66.lt (show IsS66 w0 _ g s0_0 s0_1 from by repeat (first | (with_reducible first | exact HI0.out | apply IsS66.alloc | apply IsS66.drewN | apply IsS66.drew | apply IsS66.set_1) | exact HI0.out))) : gb383 ≠ g)); clear HO1; clear HI0; clear HK; clear HB; have HO1 := n0_; have HI0 := n1_; have HK := n2_; have HB := n3_; have BK383 := n4_; have GW383 := n5_; have GE383 := n6_; have NB0_383 := n7_; have NB383_0 := n8_; clear n0_ n1_ n2_ n3_ n4_ n5_ n6_ n7_ n8_; clear hb hbox hg; have hnb21 := NB383_0.out; have hnc21 := NB0_383.out; have hcz22_0 : w20.cell? ⟨gb383, 0, none⟩ = some (.int .i64 0) := (blk_cell BK383.out 0).trans rfl; have hcz22_1 : w20.cell? ⟨gb383, 1, none⟩ = some (.int .u64 0) := (blk_cell BK383.out 1).trans rfl; have hcz22_2 : w20.cell? ⟨gb383, 2, none⟩ = some (.int .u64 0) := (blk_cell BK383.out 2).trans rfl; have hcz22_3 : w20.cell? ⟨gb383, 3, none⟩ = some (.int .u64 0) := (blk_cell BK383.out 3).trans rfl; have hcz22_4 : w20.cell? ⟨gb383, 4, none⟩ = some (.int .u64 0) := (blk_cell BK383.out 4).trans rfl; have hcz22_5 : w20.cell? ⟨gb383, 5, none⟩ = some (.int .i64 0) := (blk_cell BK383.out 5).trans rfl; have hcz22_6 : w20.cell? ⟨gb383, 6, none⟩ = some (.int .i64 0) := (blk_cell BK383.out 6).trans rfl; have hfz22_0 := blk_frozen BK383.out 0; have hfz22_1 := blk_frozen BK383.out 1; have hfz22_2 := blk_frozen BK383.out 2; have hfz22_3 := blk_frozen BK383.out 3; have hfz22_4 := blk_frozen BK383.out 4; have hfz22_5 := blk_frozen BK383.out 5; have hfz22_6 := blk_frozen BK383.out 6) | ((with_reducible refine gate_store (t := 68) (p := 12) rfl ?_); refine store_event (t := 68) (p := 12) (v := ?vo_w23) (w1 := (((((((w20.setCell ⟨gb383, 0, none⟩ (.int .i64 ((rd_T68 s0_0 a2).f0))).setCell ⟨gb383, 1, none⟩ (.int .u64 ((rd_T68 s0_0 a2).f1.f0))).setCell ⟨gb383, 2, none⟩ (.int .u64 ((rd_T68 s0_0 a2).f1.f1))).setCell ⟨gb383, 3, none⟩ (.int .u64 ((rd_T68 s0_0 a2).f1.f2))).setCell ⟨gb383, 4, none⟩ (.int .u64 ((rd_T68 s0_0 a2).f1.f3))).setCell ⟨gb383, 5, none⟩ (.int .i64 ((rd_T68 s0_0 a2).f2))).setCell ⟨gb383, 6, none⟩ (.int .i64 ((rd_T68 s0_0 a2).f3)))) ?hg ?ho ?hn ?hr ?_; (case ho => rfl); (case hg => rfl); (case hn => rfl); (case hr => first | (go_simp; done) | (go_simp; rfl)); intro w23 hw; have n0_ : Aside0 (Kd.R (Kd.int .i64) 3 w23 w0.heap.size (fun k_ => (P1_ k_ ∨ w.heap.size ≤ k_)) (.slice (some ⟨go11, 0, none⟩) l1.length co16) y381) := ⟨(by rw [hw]; exact (by (with_reducible repeat (first | apply Kd.R_alloc | apply Kd.R_drewN | apply Kd.R_drew)); exact Kd.R_mono (Kd.R_far (p := ⟨gb383, 6, none⟩) (Kd.R_far (p := ⟨gb383, 5, none⟩) (Kd.R_far (p := ⟨gb383, 4, none⟩) (Kd.R_far (p := ⟨gb383, 3, none⟩) (Kd.R_far (p := ⟨gb383, 2, none⟩) (Kd.R_far (p := ⟨gb383, 1, none⟩) (Kd.R_far (p := ⟨gb383, 0, none⟩) (Kd.R_types HO1.out BK383.out (by decide)) (fun _ hk => hk.2) (.int .i64 ((rd_T68 s0_0 a2).f0))) (fun _ hk => hk.2) (.int .u64 ((rd_T68 s0_0 a2).f1.f0))) (fun _ hk => hk.2) (.int .u64 ((rd_T68 s0_0 a2).f1.f1))) (fun _ hk => hk.2) (.int .u64 ((rd_T68 s0_0 a2).f1.f2))) (fun _ hk => hk.2) (.int .u64 ((rd_T68 s0_0 a2).f1.f3))) (fun _ hk => hk.2) (.int .i64 ((rd_T68 s0_0 a2).f2))) (fun _ hk => hk.2) (.int .i64 ((rd_T68 s0_0 a2).f3))) (fun _ hk => hk.1)))⟩; have n1_ : Aside0 (w23.heap[gb383]? = some (.cells #[.int .i64 ((rd_T68 s0_0 a2).f0), .int .u64 ((rd_T68 s0_0 a2).f1.f0), .int .u64 ((rd_T68 s0_0 a2).f1.f1), .int .u64 ((rd_T68 s0_0 a2).f1.f2), .int .u64 ((rd_T68 s0_0 a2).f1.f3), .int .i64 ((rd_T68 s0_0 a2).f2), .int .i64 ((rd_T68 s0_0 a2).f3)] 68 (0, 0))) := ⟨(by rw [hw]; exact (by (with_reducible repeat (first | refine blk_drewN ?_ _ | refine blk_drew ?_ | refine blk_alloc ?_ _)); refine blk_put (cs := #[.int .i64 ((rd_T68 s0_0 a2).f0), .int .u64 ((rd_T68 s0_0 a2).f1.f0), .int .u64 ((rd_T68 s0_0 a2).f1.f1), .int .u64 ((rd_T68 s0_0 a2).f1.f2), .int .u64 ((rd_T68 s0_0 a2).f1.f3), .int .i64 ((rd_T68 s0_0 a2).f2), .int .i64 0]) ?_ 6 _ rfl; (with_reducible repeat (first | refine blk_drewN ?_ _ | refine blk_drew ?_ | refine blk_alloc ?_ _)); refine blk_put (cs := #[.int .i64 ((rd_T68 s0_0 a2).f0), .int .u64 ((rd_T68 s0_0 a2).f1.f0), .int .u64 ((rd_T68 s0_0 a2).f1.f1), .int .u64 ((rd_T68 s0_0 a2).f1.f2), .int .u64 ((rd_T68 s0_0 a2).f1.f3), .int .i64 0, .int .i64 0]) ?_ 5 _ rfl; (with_reducible repeat (first | refine blk_drewN ?_ _ | refine blk_drew ?_ | refine blk_alloc ?_ _)); refine blk_put (cs := #[.int .i64 ((rd_T68 s0_0 a2).f0), .int .u64 ((rd_T68 s0_0 a2).f1.f0), .int .u64 ((rd_T68 s0_0 a2).f1.f1), .int .u64 ((rd_T68 s0_0 a2).f1.f2), .int .u64 0, .int .i64 0, .int .i64 0]) ?_ 4 _ rfl; (with_reducible repeat (first | refine blk_drewN ?_ _ | refine blk_drew ?_ | refine blk_alloc ?_ _)); refine blk_put (cs := #[.int .i64 ((rd_T68 s0_0 a2).f0), .int .u64 ((rd_T68 s0_0 a2).f1.f0), .int .u64 ((rd_T68 s0_0 a2).f1.f1), .int .u64 0, .int .u64 0, .int .i64 0, .int .i64 0]) ?_ 3 _ rfl; (with_reducible repeat (first | refine blk_drewN ?_ _ | refine blk_drew ?_ | refine blk_alloc ?_ _)); refine blk_put (cs := #[.int .i64 ((rd_T68 s0_0 a2).f0), .int .u64 ((rd_T68 s0_0 a2).f1.f0), .int .u64 0, .int .u64 0, .int .u64 0, .int .i64 0, .int .i64 0]) ?_ 2 _ rfl; (with_reducible repeat (first | refine blk_drewN ?_ _ | refine blk_drew ?_ | refine blk_alloc ?_ _)); refine blk_put (cs := #[.int .i64 ((rd_T68 s0_0 a2).f0), .int .u64 0, .int .u64 0, .int .u64 0, .int .u64 0, .int .i64 0, .int .i64 0]) ?_ 1 _ rfl; (with_reducible repeat (first | refine blk_drewN ?_ _ | refine blk_drew ?_ | refine blk_alloc ?_ _)); refine blk_put (cs := #[.int .i64 0, .int .u64 0, .int .u64 0, .int .u64 0, .int .u64 0, .int .i64 0, .int .i64 0]) ?_ 0 _ rfl; (with_reducible repeat (first | refine blk_drewN ?_ _ | refine blk_drew ?_ | refine blk_alloc ?_ _)); exact BK383.out))⟩; have n2_ : Aside0 (IsS66 w0 w23 g s0_0 s0_1) := ⟨(by rw [hw]; exact (by repeat (first | (with_reducible first | exact HI0.out | apply IsS66.alloc | apply IsS66.drewN | apply IsS66.drew | apply IsS66.set_1 | apply IsS66.far (hne := NB0_383.out)) | exact HI0.out)))⟩; have n3_ : Aside0 (Kept w w23 (fun k_ => (P1_ k_) ∨ k_ = g)) := ⟨(by rw [hw]; exact qe0)⟩; have n4_ : Aside0 (Below w0.heap.size w0 w23) := ⟨(by rw [hw]; exact (by repeat (first | (with_reducible first | exact HB.out | apply below_alloc | apply pw_below_drewN | apply below_drew1 | refine below_set ?_ (IsS66.ge HI0.out) | refine below_set ?_ GE383.out) | exact HB.out)))⟩; clear hw; clear HO1; clear BK383; clear HI0; clear HK; clear HB; have HO1 := n0_; have BK383 := n1_; have HI0 := n2_; have HK := n3_; have HB := n4_; clear n0_ n1_ n2_ n3_ n4_; have hcz24_0 : w23.cell? ⟨gb383, 0, none⟩ = some (.int .i64 ((rd_T68 s0_0 a2).f0)) := (blk_cell BK383.out 0).trans rfl; have hcz24_1 : w23.cell? ⟨gb383, 1, none⟩ = some (.int .u64 ((rd_T68 s0_0 a2).f1.f0)) := (blk_cell BK383.out 1).trans rfl; have hcz24_2 : w23.cell? ⟨gb383, 2, none⟩ = some (.int .u64 ((rd_T68 s0_0 a2).f1.f1)) := (blk_cell BK383.out 2).trans rfl; have hcz24_3 : w23.cell? ⟨gb383, 3, none⟩ = some (.int .u64 ((rd_T68 s0_0 a2).f1.f2)) := (blk_cell BK383.out 3).trans rfl; have hcz24_4 : w23.cell? ⟨gb383, 4, none⟩ = some (.int .u64 ((rd_T68 s0_0 a2).f1.f3)) := (blk_cell BK383.out 4).trans rfl; have hcz24_5 : w23.cell? ⟨gb383, 5, none⟩ = some (.int .i64 ((rd_T68 s0_0 a2).f2)) := (blk_cell BK383.out 5).trans rfl; have hcz24_6 : w23.cell? ⟨gb383, 6, none⟩ = some (.int .i64 ((rd_T68 s0_0 a2).f3)) := (blk_cell BK383.out 6).trans rfl; have hfz24_0 := blk_frozen BK383.out 0; have hfz24_1 := blk_frozen BK383.out 1; have hfz24_2 := blk_frozen BK383.out 2; have hfz24_3 := blk_frozen BK383.out 3; have hfz24_4 := blk_frozen BK383.out 4; have hfz24_5 := blk_frozen BK383.out 5; have hfz24_6 := blk_frozen BK383.out 6) | ((with_reducible refine gate_callee (f := 24) rfl ?_); refine goesL_ (some 41) rfl rfl Try.func24 (by kernel_rfl) rfl #[.pointer (some ⟨g, 0, none⟩), .slice (some ⟨go11, 0, none⟩) l1.length co16, .int .i64 ((rd_T68 s0_0 a2).f2), .int .i64 a3, .bool a4, .bool a5] rfl qe5 ?_; (with_reducible refine (ih k (by omega) g s0_0 s0_1 (fun k_ => some k_ = (.slice (some ⟨go11, 0, none⟩) l1.length co16 : Value).ownBlock) (.slice (some ⟨go11, 0, none⟩) l1.length co16) y381 ((rd_T68 s0_0 a2).f2) a3 a4 a5 t384 t385 w0 _ ?side1 ?side2 ?side3 ?side4 A14.out).mono ?_); (case side1 => repeat (first | (with_reducible first | exact HI0.out | apply IsS66.alloc | apply IsS66.drewN | apply IsS66.drew | apply IsS66.set_1 | apply IsS66.far (hne := NB0_383.out)) | exact HI0.out)); (case side2 => repeat (first | (with_reducible first | exact HB.out | apply below_alloc | apply pw_below_drewN | apply below_drew1 | refine below_set ?_ (IsS66.ge HI0.out) | refine below_set ?_ GE383.out) | exact HB.out)); (case side3 => exact Kd.R_tight rfl HO1.out); (case side4 => exact hT); rintro e w25 ⟨rfl, hi, hy0, hb, hkp⟩; refine ⟨_, rfl, ?_⟩; have n0_ := Aside0.mk (hi); have n1_ := Aside0.mk (Kd.R_reok rfl hy0 (fun k_ e_ => HO1.out.1 k_ e_)); have n2_ := Aside0.mk (blk_kept qe6 hkp (fun hs_ => Or.elim hs_ (fun hs_ => (fun e_ => (Kd.R_ne HO1.out BK383.out (by decide)) e_) hs_) (fun e_ => NB383_0.out e_))); have n3_ := Aside0.mk (Kept.then_ (S := (fun k_ => (P1_ k_) ∨ k_ = g)) qe0 hkp (fun k_ hs_ => Or.elim hs_ (fun hs_ => (fun e_ => Or.imp_left Or.inl ((HO1.out.1 k_ e_.symm))) hs_) (fun e_ => .inl (.inr e_)))); have n4_ := Aside0.mk (hb); clear HI0; clear HO1; clear BK383; clear HK; clear HB; have HI0 := n0_; have HO1 := n1_; have BK383 := n2_; have HK := n3_; have HB := n4_; clear n0_ n1_ n2_ n3_ n4_; (try clear hb); (try clear hkp); (try clear hy0); have hcz26_0 : w25.cell? ⟨gb383, 0, none⟩ = some (.int .i64 ((rd_T68 s0_0 a2).f0)) := (blk_cell BK383.out 0).trans rfl; have hcz26_1 : w25.cell? ⟨gb383, 1, none⟩ = some (.int .u64 ((rd_T68 s0_0 a2).f1.f0)) := (blk_cell BK383.out 1).trans rfl; have hcz26_2 : w25.cell? ⟨gb383, 2, none⟩ = some (.int .u64 ((rd_T68 s0_0 a2).f1.f1)) := (blk_cell BK383.out 2).trans rfl; have hcz26_3 : w25.cell? ⟨gb383, 3, none⟩ = some (.int .u64 ((rd_T68 s0_0 a2).f1.f2)) := (blk_cell BK383.out 3).trans rfl; have hcz26_4 : w25.cell? ⟨gb383, 4, none⟩ = some (.int .u64 ((rd_T68 s0_0 a2).f1.f3)) := (blk_cell BK383.out 4).trans rfl; have hcz26_5 : w25.cell? ⟨gb383, 5, none⟩ = some (.int .i64 ((rd_T68 s0_0 a2).f2)) := (blk_cell BK383.out 5).trans rfl; have hcz26_6 : w25.cell? ⟨gb383, 6, none⟩ = some (.int .i64 ((rd_T68 s0_0 a2).f3)) := (blk_cell BK383.out 6).trans rfl; have hfz26_0 := blk_frozen BK383.out 0; have hfz26_1 := blk_frozen BK383.out 1; have hfz26_2 := blk_frozen BK383.out 2; have hfz26_3 := blk_frozen BK383.out 3; have hfz26_4 := blk_frozen BK383.out 4; have hfz26_5 := blk_frozen BK383.out 5; have hfz26_6 := blk_frozen BK383.out 6) | ((with_reducible refine gate_callee (f := 24) rfl ?_); refine goesL_ (some 49) rfl rfl Try.func24 (by kernel_rfl) rfl #[.pointer (some ⟨g, 0, none⟩), .slice (some ⟨go11, 0, none⟩) l1.length co16, .int .i64 ((rd_T68 s0_0 a2).f3), .int .i64 a3, .bool a4, .bool a5] rfl qe5 ?_; (with_reducible refine (ih k (by omega) g s0_0 t384 (fun k_ => some k_ = (.slice (some ⟨go11, 0, none⟩) l1.length co16 : Value).ownBlock) (.slice (some ⟨go11, 0, none⟩) l1.length co16) t385 ((rd_T68 s0_0 a2).f3) a3 a4 a5 t386 t387 w0 _ ?side1 ?side2 ?side3 ?side4 A15.out).mono ?_); (case side1 => repeat (first | (with_reducible first | exact HI0.out | apply IsS66.alloc | apply IsS66.drewN | apply IsS66.drew | apply IsS66.set_1 | apply IsS66.far (hne := NB0_383.out)) | exact HI0.out)); (case side2 => repeat (first | (with_reducible first | exact HB.out | apply below_alloc | apply pw_below_drewN | apply below_drew1 | refine below_set ?_ (IsS66.ge HI0.out) | refine below_set ?_ GE383.out) | exact HB.out)); (case side3 => exact Kd.R_tight rfl HO1.out); (case side4 => exact hT); rintro e w27 ⟨rfl, hi, hy0, hb, hkp⟩; refine ⟨_, rfl, ?_⟩; have n0_ := Aside0.mk (hi); have n1_ := Aside0.mk (Kd.R_reok rfl hy0 (fun k_ e_ => HO1.out.1 k_ e_)); have n2_ := Aside0.mk (blk_kept qe6 hkp (fun hs_ => Or.elim hs_ (fun hs_ => (fun e_ => (Kd.R_ne HO1.out BK383.out (by decide)) e_) hs_) (fun e_ => NB383_0.out e_))); have n3_ := Aside0.mk (Kept.then_ (S := (fun k_ => (P1_ k_) ∨ k_ = g)) qe0 hkp (fun k_ hs_ => Or.elim hs_ (fun hs_ => (fun e_ => Or.imp_left Or.inl ((HO1.out.1 k_ e_.symm))) hs_) (fun e_ => .inl (.inr e_)))); have n4_ := Aside0.mk (hb); clear HI0; clear HO1; clear BK383; clear HK; clear HB; have HI0 := n0_; have HO1 := n1_; have BK383 := n2_; have HK := n3_; have HB := n4_; clear n0_ n1_ n2_ n3_ n4_; (try clear hb); (try clear hkp); (try clear hy0)))
      first | go_end0 | ((try simp only [Exit.inBlock, Exit.then]); refine bodyPost_ret (results_none rfl _ _ _) rfl ?_)
      exact ⟨by first | rfl | (simp [errW_none, errW_some] <;> rfl) | (simp [errW_none, errW_some] <;> first | rfl | exact isEmpty_bne _) | (simp [*, errW_none, errW_some] <;> rfl), by repeat (first | (with_reducible first | exact HI0.out | apply IsS66.alloc | apply IsS66.drewN | apply IsS66.drew | apply IsS66.set_1 | apply IsS66.far (hne := NB0_383.out)) | exact HI0.out), by (with_reducible repeat (first | apply Kd.R_alloc | apply Kd.R_drewN | apply Kd.R_drew)); exact HO1.out, by repeat (first | (with_reducible first | exact HB.out | apply below_alloc | apply pw_below_drewN | apply below_drew1 | refine below_set ?_ (IsS66.ge HI0.out) | refine below_set ?_ GE383.out) | exact HB.out), by repeat (first | (with_reducible first | exact HK.out | apply Kept.alloc | apply Kept.drewN | apply Kept.drew | refine Kept.setCell ?_ (.inl (.inr rfl)) _ | refine Kept.setCell ?_ (.inr GW383.out) _) | exact HK.out)⟩
     ·rw [if_neg c13] at H
      have c13b0 : (((rd_T68 s0_0 a2).f0) == 1) = false := beq_eq_false_iff_ne.mpr c13
      have c13b1 : (((rd_T68 s0_0 a2).f0) != 1) = true := bne_iff_ne.mpr c13
      have HC28 := Aside0.mk H
      clear H
      obtain ⟨Ao29, co29, eo29⟩ := Kd.R_slice HO1.out
      subst eo29
      have p380 : 0 ≤ (a2 : Int) := of_decide_eq_true (by first | (with_reducible assumption) | assumption)
      have qe380 : a2 < (l1.length : Int) := of_decide_eq_true (by first | (with_reducible assumption) | assumption)
      obtain ⟨ad380, e380, hx380_0⟩ := Kd.at_int (Kd.R_reads' HO1.out).2.2 a2 p380 qe380
      cases e380
      replace p380 := eq_true p380
      replace qe380 := eq_true qe380
      have p11 : 0 ≤ (a2 : Int) := of_decide_eq_true (by first | (with_reducible assumption) | assumption)
      have qe11 : (a2 : Int) < ((l1.length : Int) : Int) := of_decide_eq_true (by first | (with_reducible assumption) | assumption)
      obtain ⟨go11, co11, eo11, gb11, gl11, cl11, HG11⟩ := Kd.R_form HO1.out (by omega)
      (first | cases eo11 | (injection eo11 with ea_ en_ ec_; (first | subst ea_ | (injection ea_ with ea_; subst ea_)); subst ec_; clear en_))
      have GB11 := Aside0.mk gb11
      have GG11 := Aside0.mk HG11
      clear gb11 gl11 HG11
      have HMgo11 := Aside0.mk (show (P1_ go11 ∨ w.heap.size ≤ go11) from (HO1.out.1 _ rfl))
      (first | simp only [add_plain] at hx380_0 | skip)
      obtain ⟨hx11_0, hf11_0⟩ := Kd.R_celln 0 HO1.out (a2 : Int) p11 qe11
      replace p11 := eq_true p11
      replace qe11 := eq_true qe11
      have HP30 := Kd.R_putg HO1.out (a2 : Int) a3
      go_enter Try.func24, Try.ntmps24
      go_upto_region 6 with (first | ((with_reducible refine gate_store (t := 3) (p := 22) rfl ?_); refine store_event (t := 3) (p := 22) (v := ?vo_w31) (w1 := (w.setCell ⟨go11, (a2 : Int).toNat, none⟩ (.int .i64 a3))) ?hg ?ho ?hn ?hr ?_; (case ho => rfl); (case hg => rfl); (case hn => rfl); (case hr => first | (go_simp; done) | (go_simp; rfl)); intro w31 hw; have hg : w.grownBy w31 (some go11) := (by rw [hw]; exact HP30.2); have hp_ : Kd.R (Kd.int .i64) 3 w31 w0.heap.size (fun k_ => (P1_ k_ ∨ w.heap.size ≤ k_)) (.slice (some ⟨go11, 0, none⟩) l1.length co29) y381 := (by rw [hw, Ny381.out]; exact HP30.1); clear HP30; have n0_ := Aside0.mk (IsS66.grown qe4 hg (IsS66.own_ne HI0.out HO1.out (by decide))); have n1_ := Aside0.mk (hp_); have n2_ := Aside0.mk ((by rw [hw]; exact below_set (HB.out) GB11.out : Below w0.heap.size w0 w31)); have n3_ := Aside0.mk (Kept.of_grown (S := (fun k_ => (P1_ k_) ∨ k_ = g)) hg qe3 (fun k_ e_ => Or.imp_left Or.inl ((HO1.out.1 k_ e_)))); clear HI0; clear HO1; clear HB; clear HK; have HI0 := n0_; have HO1 := n1_; have HB := n2_; have HK := n3_; clear n0_ n1_ n2_ n3_; clear hg hw hp_; obtain ⟨ASz32_0, cSz32_0, HGz32, hgz32, HSz32_0⟩ := HI0.out; have hcz32_0 := cellS66_0 HGz32; have hcz32_1 := cellS66_1 HGz32; have hfz32_1 := blk_frozen HGz32 1; clear HGz32 hgz32; have p382 : 0 ≤ (a2 : Int) := of_decide_eq_true (by first | (with_reducible assumption) | assumption); have qe382 : a2 < (s0_0.length : Int) := of_decide_eq_true (by first | (with_reducible assumption) | assumption); obtain ⟨ad382, e382, hx382_0, hx382_1, hx382_2, hx382_3, hx382_4, hx382_5, hx382_6⟩ := at_T68 HSz32_0 a2 p382 qe382; cases e382; replace hx382_0 := pw_cell_below HB.out hx382_0; replace hx382_1 := pw_cell_below HB.out hx382_1; replace hx382_2 := pw_cell_below HB.out hx382_2; replace hx382_3 := pw_cell_below HB.out hx382_3; replace hx382_4 := pw_cell_below HB.out hx382_4; replace hx382_5 := pw_cell_below HB.out hx382_5; replace hx382_6 := pw_cell_below HB.out hx382_6; replace p382 := eq_true p382; replace qe382 := eq_true qe382) | ((with_reducible refine gate_dst (N := 12) rfl ?_); refine box_event ?hg (N := 12) ?hd (cs := #[.int .i64 0, .int .u64 0, .int .u64 0, .int .u64 0, .int .u64 0, .int .i64 0, .int .i64 0]) (t := 68) ?hr ?_; (case hd => rfl); (case hg => rfl); (case hr => first | (go_simp; done) | (go_simp; rfl)); intro gb383 hg w33 hbox hb; have n0_ := Aside0.mk (Kd.R_below (by (with_reducible repeat (first | apply Kd.R_alloc | apply Kd.R_drewN | apply Kd.R_drew)); exact HO1.out) hb); have n1_ := Aside0.mk (IsS66.below qe4 hb); have n2_ := Aside0.mk (Kept.below (S := (fun k_ => (P1_ k_) ∨ k_ = g)) qe3 hb); have n3_ := Aside0.mk (below_step qe2 hb); have n4_ := Aside0.mk (hbox); have n5_ := Aside0.mk ((by rw [hg]; exact qe7 : w.heap.size ≤ gb383)); have n6_ := Aside0.mk ((by rw [hg]; exact (below_size qe2) : w0.heap.size ≤ gb383)); have n7_ := Aside0.mk ((by rw [hg]; exact Nat.ne_of_lt (IsS66.lt (show IsS66 w0 _ g s0_0 s0_1 from by repeat (first | (with_reducible first | exact HI0.out | apply IsS66.alloc | apply IsS66.drewN | apply IsS66.drew | apply IsS66.set_1) | exact HI0.out))) : g ≠ gb383)); have n8_ := Aside0.mk ((by rw [hg]; exact Nat.ne_of_gt (IsS66.lt (show IsS66 w0 _ g s0_0 s0_1 from by repeat (first | (with_reducible first | exact HI0.out | apply IsS66.alloc | apply IsS66.drewN | apply IsS66.drew | apply IsS66.set_1) | exact HI0.out))) : gb383 ≠ g)); clear HO1; clear HI0; clear HK; clear HB; have HO1 := n0_; have HI0 := n1_; have HK := n2_; have HB := n3_; have BK383 := n4_; have GW383 := n5_; have GE383 := n6_; have NB0_383 := n7_; have NB383_0 := n8_; clear n0_ n1_ n2_ n3_ n4_ n5_ n6_ n7_ n8_; clear hb hbox hg; have hnb34 := NB383_0.out; have hnc34 := NB0_383.out; have hcz35_0 : w33.cell? ⟨gb383, 0, none⟩ = some (.int .i64 0) := (blk_cell BK383.out 0).trans rfl; have hcz35_1 : w33.cell? ⟨gb383, 1, none⟩ = some (.int .u64 0) := (blk_cell BK383.out 1).trans rfl; have hcz35_2 : w33.cell? ⟨gb383, 2, none⟩ = some (.int .u64 0) := (blk_cell BK383.out 2).trans rfl; have hcz35_3 : w33.cell? ⟨gb383, 3, none⟩ = some (.int .u64 0) := (blk_cell BK383.out 3).trans rfl; have hcz35_4 : w33.cell? ⟨gb383, 4, none⟩ = some (.int .u64 0) := (blk_cell BK383.out 4).trans rfl; have hcz35_5 : w33.cell? ⟨gb383, 5, none⟩ = some (.int .i64 0) := (blk_cell BK383.out 5).trans rfl; have hcz35_6 : w33.cell? ⟨gb383, 6, none⟩ = some (.int .i64 0) := (blk_cell BK383.out 6).trans rfl; have hfz35_0 := blk_frozen BK383.out 0; have hfz35_1 := blk_frozen BK383.out 1; have hfz35_2 := blk_frozen BK383.out 2; have hfz35_3 := blk_frozen BK383.out 3; have hfz35_4 := blk_frozen BK383.out 4; have hfz35_5 := blk_frozen BK383.out 5; have hfz35_6 := blk_frozen BK383.out 6))
      (try simp only [Act.put, List.setIfInBounds_toArray, List.set_cons_zero, List.set_cons_succ])
      go_cut [50] (fun v50 wc => ∃ (kq : Nat) (x50_27 : Bool), v50 = .bool x50_27 ∧ Aside0 (match_Prog_close.j0 kq y381 a3 a4 a5 x50_27 s0_0 s0_1 ((rd_T68 s0_0 a2).f0) ((rd_T68 s0_0 a2).f1.f0) ((rd_T68 s0_0 a2).f1.f1) ((rd_T68 s0_0 a2).f1.f2) ((rd_T68 s0_0 a2).f1.f3) ((rd_T68 s0_0 a2).f2) ((rd_T68 s0_0 a2).f3) = some (r1, r2)) ∧ Aside0 (kq ≤ k) ∧ Aside0 (Kd.R (Kd.int .i64) 3 wc w0.heap.size (fun k_ => (P1_ k_ ∨ w.heap.size ≤ k_)) (.slice (some ⟨go11, 0, none⟩) l1.length co29) y381) ∧ Aside0 (wc.heap[gb383]? = some (.cells #[.int .i64 ((rd_T68 s0_0 a2).f0), .int .u64 ((rd_T68 s0_0 a2).f1.f0), .int .u64 ((rd_T68 s0_0 a2).f1.f1), .int .u64 ((rd_T68 s0_0 a2).f1.f2), .int .u64 ((rd_T68 s0_0 a2).f1.f3), .int .i64 ((rd_T68 s0_0 a2).f2), .int .i64 ((rd_T68 s0_0 a2).f3)] 68 (0, 0))) ∧ Aside0 (IsS66 w0 wc g s0_0 s0_1) ∧ Aside0 (Kept w wc (fun k_ => (P1_ k_) ∨ k_ = g)) ∧ Aside0 (Below w0.heap.size w0 wc))
      case first =>
       have H := HC28.out
       clear HC28
       by_cases c36 : ((rd_T68 s0_0 a2).f0) = 2
       ·rw [if_pos c36] at H
        have c36b0 : (((rd_T68 s0_0 a2).f0) == 2) = true := beq_iff_eq.mpr c36
        have c36b1 : (((rd_T68 s0_0 a2).f0) != 2) = false := bne_eq_false_iff_eq.mpr c36
        clear c36
        (first | rw [c36b0] | (simp only [i64_w, i32_w]; rw [c36b0]) | skip)
        have H' := Aside0.mk H
        clear H
        have hnb37 := NB383_0.out
        have hnc37 := NB0_383.out
        have hcz38_0 : w33.cell? ⟨gb383, 0, none⟩ = some (.int .i64 0) := (blk_cell BK383.out 0).trans rfl
        have hcz38_1 : w33.cell? ⟨gb383, 1, none⟩ = some (.int .u64 0) := (blk_cell BK383.out 1).trans rfl
        have hcz38_2 : w33.cell? ⟨gb383, 2, none⟩ = some (.int .u64 0) := (blk_cell BK383.out 2).trans rfl
        have hcz38_3 : w33.cell? ⟨gb383, 3, none⟩ = some (.int .u64 0) := (blk_cell BK383.out 3).trans rfl
        have hcz38_4 : w33.cell? ⟨gb383, 4, none⟩ = some (.int .u64 0) := (blk_cell BK383.out 4).trans rfl
        have hcz38_5 : w33.cell? ⟨gb383, 5, none⟩ = some (.int .i64 0) := (blk_cell BK383.out 5).trans rfl
        have hcz38_6 : w33.cell? ⟨gb383, 6, none⟩ = some (.int .i64 0) := (blk_cell BK383.out 6).trans rfl
        have hfz38_0 := blk_frozen BK383.out 0
        have hfz38_1 := blk_frozen BK383.out 1
        have hfz38_2 := blk_frozen BK383.out 2
        have hfz38_3 := blk_frozen BK383.out 3
        have hfz38_4 := blk_frozen BK383.out 4
        have hfz38_5 := blk_frozen BK383.out 5
        have hfz38_6 := blk_frozen BK383.out 6
        go_wp2
        go_meet
        case rel => exact ⟨_, (a4), (by first | rfl | (simp; done) | (simp [*]; done) | (simp; unfold wrap64; omega)), H', ⟨by first | omega | exact Nat.le_refl _⟩, ⟨by (with_reducible repeat (first | apply Kd.R_alloc | apply Kd.R_drewN | apply Kd.R_drew)); exact Kd.R_mono (Kd.R_far (p := ⟨gb383, 6, none⟩) (Kd.R_far (p := ⟨gb383, 5, none⟩) (Kd.R_far (p := ⟨gb383, 4, none⟩) (Kd.R_far (p := ⟨gb383, 3, none⟩) (Kd.R_far (p := ⟨gb383, 2, none⟩) (Kd.R_far (p := ⟨gb383, 1, none⟩) (Kd.R_far (p := ⟨gb383, 0, none⟩) (Kd.R_types HO1.out BK383.out (by decide)) (fun _ hk => hk.2) (.int .i64 ((rd_T68 s0_0 a2).f0))) (fun _ hk => hk.2) (.int .u64 ((rd_T68 s0_0 a2).f1.f0))) (fun _ hk => hk.2) (.int .u64 ((rd_T68 s0_0 a2).f1.f1))) (fun _ hk => hk.2) (.int .u64 ((rd_T68 s0_0 a2).f1.f2))) (fun _ hk => hk.2) (.int .u64 ((rd_T68 s0_0 a2).f1.f3))) (fun _ hk => hk.2) (.int .i64 ((rd_T68 s0_0 a2).f2))) (fun _ hk => hk.2) (.int .i64 ((rd_T68 s0_0 a2).f3))) (fun _ hk => hk.1)⟩, ⟨by (with_reducible repeat (first | refine blk_drewN ?_ _ | refine blk_drew ?_ | refine blk_alloc ?_ _)); refine blk_put (cs := #[.int .i64 ((rd_T68 s0_0 a2).f0), .int .u64 ((rd_T68 s0_0 a2).f1.f0), .int .u64 ((rd_T68 s0_0 a2).f1.f1), .int .u64 ((rd_T68 s0_0 a2).f1.f2), .int .u64 ((rd_T68 s0_0 a2).f1.f3), .int .i64 ((rd_T68 s0_0 a2).f2), .int .i64 0]) ?_ 6 _ rfl; (with_reducible repeat (first | refine blk_drewN ?_ _ | refine blk_drew ?_ | refine blk_alloc ?_ _)); refine blk_put (cs := #[.int .i64 ((rd_T68 s0_0 a2).f0), .int .u64 ((rd_T68 s0_0 a2).f1.f0), .int .u64 ((rd_T68 s0_0 a2).f1.f1), .int .u64 ((rd_T68 s0_0 a2).f1.f2), .int .u64 ((rd_T68 s0_0 a2).f1.f3), .int .i64 0, .int .i64 0]) ?_ 5 _ rfl; (with_reducible repeat (first | refine blk_drewN ?_ _ | refine blk_drew ?_ | refine blk_alloc ?_ _)); refine blk_put (cs := #[.int .i64 ((rd_T68 s0_0 a2).f0), .int .u64 ((rd_T68 s0_0 a2).f1.f0), .int .u64 ((rd_T68 s0_0 a2).f1.f1), .int .u64 ((rd_T68 s0_0 a2).f1.f2), .int .u64 0, .int .i64 0, .int .i64 0]) ?_ 4 _ rfl; (with_reducible repeat (first | refine blk_drewN ?_ _ | refine blk_drew ?_ | refine blk_alloc ?_ _)); refine blk_put (cs := #[.int .i64 ((rd_T68 s0_0 a2).f0), .int .u64 ((rd_T68 s0_0 a2).f1.f0), .int .u64 ((rd_T68 s0_0 a2).f1.f1), .int .u64 0, .int .u64 0, .int .i64 0, .int .i64 0]) ?_ 3 _ rfl; (with_reducible repeat (first | refine blk_drewN ?_ _ | refine blk_drew ?_ | refine blk_alloc ?_ _)); refine blk_put (cs := #[.int .i64 ((rd_T68 s0_0 a2).f0), .int .u64 ((rd_T68 s0_0 a2).f1.f0), .int .u64 0, .int .u64 0, .int .u64 0, .int .i64 0, .int .i64 0]) ?_ 2 _ rfl; (with_reducible repeat (first | refine blk_drewN ?_ _ | refine blk_drew ?_ | refine blk_alloc ?_ _)); refine blk_put (cs := #[.int .i64 ((rd_T68 s0_0 a2).f0), .int .u64 0, .int .u64 0, .int .u64 0, .int .u64 0, .int .i64 0, .int .i64 0]) ?_ 1 _ rfl; (with_reducible repeat (first | refine blk_drewN ?_ _ | refine blk_drew ?_ | refine blk_alloc ?_ _)); refine blk_put (cs := #[.int .i64 0, .int .u64 0, .int .u64 0, .int .u64 0, .int .u64 0, .int .i64 0, .int .i64 0]) ?_ 0 _ rfl; (with_reducible repeat (first | refine blk_drewN ?_ _ | refine blk_drew ?_ | refine blk_alloc ?_ _)); exact BK383.out⟩, ⟨by repeat (first | (with_reducible first | exact HI0.out | apply IsS66.alloc | apply IsS66.drewN | apply IsS66.drew | apply IsS66.set_1 | apply IsS66.far (hne := NB0_383.out)) | exact HI0.out)⟩, ⟨by repeat (first | (with_reducible first | exact HK.out | apply Kept.alloc | apply Kept.drewN | apply Kept.drew | refine Kept.setCell ?_ (.inl (.inr rfl)) _ | refine Kept.setCell ?_ (.inr GW383.out) _) | exact HK.out)⟩, ⟨by repeat (first | (with_reducible first | exact HB.out | apply below_alloc | apply pw_below_drewN | apply below_drew1 | refine below_set ?_ (IsS66.ge HI0.out) | refine below_set ?_ GE383.out) | exact HB.out)⟩⟩
       ·rw [if_neg c36] at H
        have c36b0 : (((rd_T68 s0_0 a2).f0) == 2) = false := beq_eq_false_iff_ne.mpr c36
        have c36b1 : (((rd_T68 s0_0 a2).f0) != 2) = true := bne_iff_ne.mpr c36
        (first | rw [c36b0] | (simp only [i64_w, i32_w]; rw [c36b0]) | skip)
        have H' := Aside0.mk H
        clear H
        have hnb39 := NB383_0.out
        have hnc39 := NB0_383.out
        have hcz40_0 : w33.cell? ⟨gb383, 0, none⟩ = some (.int .i64 0) := (blk_cell BK383.out 0).trans rfl
        have hcz40_1 : w33.cell? ⟨gb383, 1, none⟩ = some (.int .u64 0) := (blk_cell BK383.out 1).trans rfl
        have hcz40_2 : w33.cell? ⟨gb383, 2, none⟩ = some (.int .u64 0) := (blk_cell BK383.out 2).trans rfl
        have hcz40_3 : w33.cell? ⟨gb383, 3, none⟩ = some (.int .u64 0) := (blk_cell BK383.out 3).trans rfl
        have hcz40_4 : w33.cell? ⟨gb383, 4, none⟩ = some (.int .u64 0) := (blk_cell BK383.out 4).trans rfl
        have hcz40_5 : w33.cell? ⟨gb383, 5, none⟩ = some (.int .i64 0) := (blk_cell BK383.out 5).trans rfl
        have hcz40_6 : w33.cell? ⟨gb383, 6, none⟩ = some (.int .i64 0) := (blk_cell BK383.out 6).trans rfl
        have hfz40_0 := blk_frozen BK383.out 0
        have hfz40_1 := blk_frozen BK383.out 1
        have hfz40_2 := blk_frozen BK383.out 2
        have hfz40_3 := blk_frozen BK383.out 3
        have hfz40_4 := blk_frozen BK383.out 4
        have hfz40_5 := blk_frozen BK383.out 5
        have hfz40_6 := blk_frozen BK383.out 6
        go_wp2
        go_meet
        case rel => exact ⟨_, (false), (by first | rfl | (simp; done) | (simp [*]; done) | (simp; unfold wrap64; omega)), H', ⟨by first | omega | exact Nat.le_refl _⟩, ⟨by (with_reducible repeat (first | apply Kd.R_alloc | apply Kd.R_drewN | apply Kd.R_drew)); exact Kd.R_mono (Kd.R_far (p := ⟨gb383, 6, none⟩) (Kd.R_far (p := ⟨gb383, 5, none⟩) (Kd.R_far (p := ⟨gb383, 4, none⟩) (Kd.R_far (p := ⟨gb383, 3, none⟩) (Kd.R_far (p := ⟨gb383, 2, none⟩) (Kd.R_far (p := ⟨gb383, 1, none⟩) (Kd.R_far (p := ⟨gb383, 0, none⟩) (Kd.R_types HO1.out BK383.out (by decide)) (fun _ hk => hk.2) (.int .i64 ((rd_T68 s0_0 a2).f0))) (fun _ hk => hk.2) (.int .u64 ((rd_T68 s0_0 a2).f1.f0))) (fun _ hk => hk.2) (.int .u64 ((rd_T68 s0_0 a2).f1.f1))) (fun _ hk => hk.2) (.int .u64 ((rd_T68 s0_0 a2).f1.f2))) (fun _ hk => hk.2) (.int .u64 ((rd_T68 s0_0 a2).f1.f3))) (fun _ hk => hk.2) (.int .i64 ((rd_T68 s0_0 a2).f2))) (fun _ hk => hk.2) (.int .i64 ((rd_T68 s0_0 a2).f3))) (fun _ hk => hk.1)⟩, ⟨by (with_reducible repeat (first | refine blk_drewN ?_ _ | refine blk_drew ?_ | refine blk_alloc ?_ _)); refine blk_put (cs := #[.int .i64 ((rd_T68 s0_0 a2).f0), .int .u64 ((rd_T68 s0_0 a2).f1.f0), .int .u64 ((rd_T68 s0_0 a2).f1.f1), .int .u64 ((rd_T68 s0_0 a2).f1.f2), .int .u64 ((rd_T68 s0_0 a2).f1.f3), .int .i64 ((rd_T68 s0_0 a2).f2), .int .i64 0]) ?_ 6 _ rfl; (with_reducible repeat (first | refine blk_drewN ?_ _ | refine blk_drew ?_ | refine blk_alloc ?_ _)); refine blk_put (cs := #[.int .i64 ((rd_T68 s0_0 a2).f0), .int .u64 ((rd_T68 s0_0 a2).f1.f0), .int .u64 ((rd_T68 s0_0 a2).f1.f1), .int .u64 ((rd_T68 s0_0 a2).f1.f2), .int .u64 ((rd_T68 s0_0 a2).f1.f3), .int .i64 0, .int .i64 0]) ?_ 5 _ rfl; (with_reducible repeat (first | refine blk_drewN ?_ _ | refine blk_drew ?_ | refine blk_alloc ?_ _)); refine blk_put (cs := #[.int .i64 ((rd_T68 s0_0 a2).f0), .int .u64 ((rd_T68 s0_0 a2).f1.f0), .int .u64 ((rd_T68 s0_0 a2).f1.f1), .int .u64 ((rd_T68 s0_0 a2).f1.f2), .int .u64 0, .int .i64 0, .int .i64 0]) ?_ 4 _ rfl; (with_reducible repeat (first | refine blk_drewN ?_ _ | refine blk_drew ?_ | refine blk_alloc ?_ _)); refine blk_put (cs := #[.int .i64 ((rd_T68 s0_0 a2).f0), .int .u64 ((rd_T68 s0_0 a2).f1.f0), .int .u64 ((rd_T68 s0_0 a2).f1.f1), .int .u64 0, .int .u64 0, .int .i64 0, .int .i64 0]) ?_ 3 _ rfl; (with_reducible repeat (first | refine blk_drewN ?_ _ | refine blk_drew ?_ | refine blk_alloc ?_ _)); refine blk_put (cs := #[.int .i64 ((rd_T68 s0_0 a2).f0), .int .u64 ((rd_T68 s0_0 a2).f1.f0), .int .u64 0, .int .u64 0, .int .u64 0, .int .i64 0, .int .i64 0]) ?_ 2 _ rfl; (with_reducible repeat (first | refine blk_drewN ?_ _ | refine blk_drew ?_ | refine blk_alloc ?_ _)); refine blk_put (cs := #[.int .i64 ((rd_T68 s0_0 a2).f0), .int .u64 0, .int .u64 0, .int .u64 0, .int .u64 0, .int .i64 0, .int .i64 0]) ?_ 1 _ rfl; (with_reducible repeat (first | refine blk_drewN ?_ _ | refine blk_drew ?_ | refine blk_alloc ?_ _)); refine blk_put (cs := #[.int .i64 0, .int .u64 0, .int .u64 0, .int .u64 0, .int .u64 0, .int .i64 0, .int .i64 0]) ?_ 0 _ rfl; (with_reducible repeat (first | refine blk_drewN ?_ _ | refine blk_drew ?_ | refine blk_alloc ?_ _)); exact BK383.out⟩, ⟨by repeat (first | (with_reducible first | exact HI0.out | apply IsS66.alloc | apply IsS66.drewN | apply IsS66.drew | apply IsS66.set_1 | apply IsS66.far (hne := NB0_383.out)) | exact HI0.out)⟩, ⟨by repeat (first | (with_reducible first | exact HK.out | apply Kept.alloc | apply Kept.drewN | apply Kept.drew | refine Kept.setCell ?_ (.inl (.inr rfl)) _ | refine Kept.setCell ?_ (.inr GW383.out) _) | exact HK.out)⟩, ⟨by repeat (first | (with_reducible first | exact HB.out | apply below_alloc | apply pw_below_drewN | apply below_drew1 | refine below_set ?_ (IsS66.ge HI0.out) | refine below_set ?_ GE383.out) | exact HB.out)⟩⟩
      case rest =>
       clear HC28
       try clear c1
       try clear p1
       try clear qe1
       try clear hx1
       try clear c2
       try clear p2
       try clear c3
       try clear p3
       try clear qe3
       try clear hx3
       try clear p6
       try clear c7
       try clear c7b0
       try clear c8
       try clear c8b0
       try clear c9
       try clear c9b0
       try clear p11
       try clear qe11
       try clear hx11
       try clear hf11
       try clear c12
       try clear c12b0
       try clear c13
       try clear c13b0
       try clear c13b1
       try clear c21
       try clear c24
       try clear c34
       try clear c36
       try clear c36b0
       try clear c36b1
       try clear c37
       try clear p38
       try clear qe38
       try clear hx38
       try clear c39
       try clear hcz19_0
       try clear hcz19_1
       try clear hcz22_0
       try clear hcz22_1
       try clear hcz22_2
       try clear hcz22_3
       try clear hcz22_4
       try clear hcz22_5
       try clear hcz22_6
       try clear hcz24_0
       try clear hcz24_1
       try clear hcz24_2
       try clear hcz24_3
       try clear hcz24_4
       try clear hcz24_5
       try clear hcz24_6
       try clear hcz26_0
       try clear hcz26_1
       try clear hcz26_2
       try clear hcz26_3
       try clear hcz26_4
       try clear hcz26_5
       try clear hcz26_6
       try clear hcz32_0
       try clear hcz32_1
       try clear hcz35_0
       try clear hcz35_1
       try clear hcz35_2
       try clear hcz35_3
       try clear hcz35_4
       try clear hcz35_5
       try clear hcz35_6
       try clear hcz38_0
       try clear hcz38_1
       try clear hcz38_2
       try clear hcz38_3
       try clear hcz38_4
       try clear hcz38_5
       try clear hcz38_6
       try clear hcz40_0
       try clear hcz40_1
       try clear hcz40_2
       try clear hcz40_3
       try clear hcz40_4
       try clear hcz40_5
       try clear hcz40_6
       try clear hfz19_1
       try clear hfz22_0
       try clear hfz22_1
       try clear hfz22_2
       try clear hfz22_3
       try clear hfz22_4
       try clear hfz22_5
       try clear hfz22_6
       try clear hfz24_0
       try clear hfz24_1
       try clear hfz24_2
       try clear hfz24_3
       try clear hfz24_4
       try clear hfz24_5
       try clear hfz24_6
       try clear hfz26_0
       try clear hfz26_1
       try clear hfz26_2
       try clear hfz26_3
       try clear hfz26_4
       try clear hfz26_5
       try clear hfz26_6
       try clear hfz32_1
       try clear hfz35_0
       try clear hfz35_1
       try clear hfz35_2
       try clear hfz35_3
       try clear hfz35_4
       try clear hfz35_5
       try clear hfz35_6
       try clear hfz38_0
       try clear hfz38_1
       try clear hfz38_2
       try clear hfz38_3
       try clear hfz38_4
       try clear hfz38_5
       try clear hfz38_6
       try clear hfz40_0
       try clear hfz40_1
       try clear hfz40_2
       try clear hfz40_3
       try clear hfz40_4
       try clear hfz40_5
       try clear hfz40_6
       try clear hx11_0
       try clear hx380_0
       try clear hx382_0
       try clear hx382_1
       try clear hx382_2
       try clear hx382_3
       try clear hx382_4
       try clear hx382_5
       try clear hx382_6
       try clear p11
       try clear p380
       try clear p382
       try clear qe11
       try clear qe380
       try clear qe382
       obtain ⟨kq, x50_27, rfl, HA, HJ27, HO_1, BK383, HI0, HK, HB⟩ := hcut
       have hl1_27 := (Kd.R_reads' HO_1.out).1
       rw [hl1_27] at HO_1
       (try simp only [hl1_27])
       (try simp only [hl1_27] at BK383)
       cases kq with
       | zero => exact absurd HA.out (by simp [match_Prog_close.j0])
       | succ kj27 =>
        have H := HA.out
        clear HA
        simp only [match_Prog_close.j0] at H
        by_cases c41 : x50_27 = true
        ·subst c41
         have H1 : ((match_Prog_close.f kj27 s0_0 s0_1 y381 ((rd_T68 s0_0 a2).f2) a3 a4 a5).bind fun bt388 => (some (bt388.1, bt388.2))) = some (r1, r2) := by rw [if_pos rfl] at H; exact H
         clear H
         have H := H1
         clear H1
         replace H := Option.bind_eq_some_iff.mp H
         obtain ⟨⟨t388, t389⟩, A420, H⟩ := H
         replace H : (some (t388, t389)) = some (r1, r2) := H
         have A42 := Aside0.mk A420
         clear A420
         simp only [Option.some.injEq, Prod.mk.injEq] at H
         obtain ⟨rfl, rfl⟩ := H
         have hnb43 := NB383_0.out
         have hnc43 := NB0_383.out
         have hcz44_0 : wc.cell? ⟨gb383, 0, none⟩ = some (.int .i64 ((rd_T68 s0_0 a2).f0)) := (blk_cell BK383.out 0).trans rfl
         have hcz44_1 : wc.cell? ⟨gb383, 1, none⟩ = some (.int .u64 ((rd_T68 s0_0 a2).f1.f0)) := (blk_cell BK383.out 1).trans rfl
         have hcz44_2 : wc.cell? ⟨gb383, 2, none⟩ = some (.int .u64 ((rd_T68 s0_0 a2).f1.f1)) := (blk_cell BK383.out 2).trans rfl
         have hcz44_3 : wc.cell? ⟨gb383, 3, none⟩ = some (.int .u64 ((rd_T68 s0_0 a2).f1.f2)) := (blk_cell BK383.out 3).trans rfl
         have hcz44_4 : wc.cell? ⟨gb383, 4, none⟩ = some (.int .u64 ((rd_T68 s0_0 a2).f1.f3)) := (blk_cell BK383.out 4).trans rfl
         have hcz44_5 : wc.cell? ⟨gb383, 5, none⟩ = some (.int .i64 ((rd_T68 s0_0 a2).f2)) := (blk_cell BK383.out 5).trans rfl
         have hcz44_6 : wc.cell? ⟨gb383, 6, none⟩ = some (.int .i64 ((rd_T68 s0_0 a2).f3)) := (blk_cell BK383.out 6).trans rfl
         have hfz44_0 := blk_frozen BK383.out 0
         have hfz44_1 := blk_frozen BK383.out 1
         have hfz44_2 := blk_frozen BK383.out 2
         have hfz44_3 := blk_frozen BK383.out 3
         have hfz44_4 := blk_frozen BK383.out 4
         have hfz44_5 := blk_frozen BK383.out 5
         have hfz44_6 := blk_frozen BK383.out 6
         go_wp2_with (first | ((with_reducible refine gate_callee (f := 24) rfl ?_); refine goesL_ (some 70) rfl rfl Try.func24 (by kernel_rfl) rfl #[.pointer (some ⟨g, 0, none⟩), .slice (some ⟨go11, 0, none⟩) y381.length co29, .int .i64 ((rd_T68 s0_0 a2).f2), .int .i64 a3, .bool a4, .bool a5] rfl qe5 ?_; (with_reducible refine (ih kj27 (by have := HJ27.out; omega) g s0_0 s0_1 (fun k_ => some k_ = (.slice (some ⟨go11, 0, none⟩) y381.length co29 : Value).ownBlock) (.slice (some ⟨go11, 0, none⟩) y381.length co29) y381 ((rd_T68 s0_0 a2).f2) a3 a4 a5 t388 t389 w0 _ ?side1 ?side2 ?side3 ?side4 A42.out).mono ?_); (case side1 => repeat (first | (with_reducible first | exact HI0.out | apply IsS66.alloc | apply IsS66.drewN | apply IsS66.drew | apply IsS66.set_1 | apply IsS66.far (hne := NB0_383.out)) | exact HI0.out)); (case side2 => repeat (first | (with_reducible first | exact HB.out | apply below_alloc | apply pw_below_drewN | apply below_drew1 | refine below_set ?_ (IsS66.ge HI0.out) | refine below_set ?_ GE383.out) | exact HB.out)); (case side3 => exact Kd.R_tight rfl HO_1.out); (case side4 => exact hT); rintro e w45 ⟨rfl, hi, hy0, hb, hkp⟩; refine ⟨_, rfl, ?_⟩; have n0_ := Aside0.mk (Kd.R_reok rfl hy0 (fun k_ e_ => HO_1.out.1 k_ e_)); have n1_ := Aside0.mk (blk_kept qe6 hkp (fun hs_ => Or.elim hs_ (fun hs_ => (fun e_ => (Kd.R_ne HO_1.out BK383.out (by decide)) e_) hs_) (fun e_ => NB383_0.out e_))); have n2_ := Aside0.mk (hi); have n3_ := Aside0.mk (Kept.then_ (S := (fun k_ => (P1_ k_) ∨ k_ = g)) qe0 hkp (fun k_ hs_ => Or.elim hs_ (fun hs_ => (fun e_ => Or.imp_left Or.inl ((HO_1.out.1 k_ e_.symm))) hs_) (fun e_ => .inl (.inr e_)))); have n4_ := Aside0.mk (hb); clear HO_1; clear BK383; clear HI0; clear HK; clear HB; have HO_1 := n0_; have BK383 := n1_; have HI0 := n2_; have HK := n3_; have HB := n4_; clear n0_ n1_ n2_ n3_ n4_; (try clear hb); (try clear hkp); (try clear hy0)))
         first | go_end0 | ((try simp only [Exit.inBlock, Exit.then]); refine bodyPost_ret (results_none rfl _ _ _) rfl ?_)
         exact ⟨by first | rfl | (simp [errW_none, errW_some] <;> rfl) | (simp [errW_none, errW_some] <;> first | rfl | exact isEmpty_bne _) | (simp [*, errW_none, errW_some] <;> rfl), by repeat (first | (with_reducible first | exact HI0.out | apply IsS66.alloc | apply IsS66.drewN | apply IsS66.drew | apply IsS66.set_1 | apply IsS66.far (hne := NB0_383.out)) | exact HI0.out), qe1, by repeat (first | (with_reducible first | exact HB.out | apply below_alloc | apply pw_below_drewN | apply below_drew1 | refine below_set ?_ (IsS66.ge HI0.out) | refine below_set ?_ GE383.out) | exact HB.out), by repeat (first | (with_reducible first | exact HK.out | apply Kept.alloc | apply Kept.drewN | apply Kept.drew | refine Kept.setCell ?_ (.inl (.inr rfl)) _ | refine Kept.setCell ?_ (.inr GW383.out) _) | exact HK.out)⟩
        ·replace c41 := Bool.eq_false_iff.mpr c41
         subst c41
         have H1 : (if ((rd_T68 s0_0 a2).f0) = 3 then (if a5 = true then ((match_Prog_close.f kj27 s0_0 s0_1 y381 ((rd_T68 s0_0 a2).f2) a3 a4 a5).bind fun bt390 => (some (bt390.1, bt390.2))) else (some (s0_1, y381))) else (some (s0_1, y381))) = some (r1, r2) := by rw [if_neg (show ¬ (false = true) by decide)] at H; exact H
         clear H
         have H := H1
         clear H1
         by_cases c46 : ((rd_T68 s0_0 a2).f0) = 3
         ·rw [if_pos c46] at H
          have c46b0 : (((rd_T68 s0_0 a2).f0) == 3) = true := beq_iff_eq.mpr c46
          have c46b1 : (((rd_T68 s0_0 a2).f0) != 3) = false := bne_eq_false_iff_eq.mpr c46
          clear c46
          by_cases c47 : a5 = true
          ·subst c47
           have H1 : ((match_Prog_close.f kj27 s0_0 s0_1 y381 ((rd_T68 s0_0 a2).f2) a3 a4 true).bind fun bt390 => (some (bt390.1, bt390.2))) = some (r1, r2) := by rw [if_pos rfl] at H; exact H
           clear H
           have H := H1
           clear H1
           replace H := Option.bind_eq_some_iff.mp H
           obtain ⟨⟨t390, t391⟩, A480, H⟩ := H
           replace H : (some (t390, t391)) = some (r1, r2) := H
           have A48 := Aside0.mk A480
           clear A480
           simp only [Option.some.injEq, Prod.mk.injEq] at H
           obtain ⟨rfl, rfl⟩ := H
           have hnb49 := NB383_0.out
           have hnc49 := NB0_383.out
           have hcz50_0 : wc.cell? ⟨gb383, 0, none⟩ = some (.int .i64 ((rd_T68 s0_0 a2).f0)) := (blk_cell BK383.out 0).trans rfl
           have hcz50_1 : wc.cell? ⟨gb383, 1, none⟩ = some (.int .u64 ((rd_T68 s0_0 a2).f1.f0)) := (blk_cell BK383.out 1).trans rfl
           have hcz50_2 : wc.cell? ⟨gb383, 2, none⟩ = some (.int .u64 ((rd_T68 s0_0 a2).f1.f1)) := (blk_cell BK383.out 2).trans rfl
           have hcz50_3 : wc.cell? ⟨gb383, 3, none⟩ = some (.int .u64 ((rd_T68 s0_0 a2).f1.f2)) := (blk_cell BK383.out 3).trans rfl
           have hcz50_4 : wc.cell? ⟨gb383, 4, none⟩ = some (.int .u64 ((rd_T68 s0_0 a2).f1.f3)) := (blk_cell BK383.out 4).trans rfl
           have hcz50_5 : wc.cell? ⟨gb383, 5, none⟩ = some (.int .i64 ((rd_T68 s0_0 a2).f2)) := (blk_cell BK383.out 5).trans rfl
           have hcz50_6 : wc.cell? ⟨gb383, 6, none⟩ = some (.int .i64 ((rd_T68 s0_0 a2).f3)) := (blk_cell BK383.out 6).trans rfl
           have hfz50_0 := blk_frozen BK383.out 0
           have hfz50_1 := blk_frozen BK383.out 1
           have hfz50_2 := blk_frozen BK383.out 2
           have hfz50_3 := blk_frozen BK383.out 3
           have hfz50_4 := blk_frozen BK383.out 4
           have hfz50_5 := blk_frozen BK383.out 5
           have hfz50_6 := blk_frozen BK383.out 6
           go_wp2_with (first | ((with_reducible refine gate_callee (f := 24) rfl ?_); refine goesL_ (some 70) rfl rfl Try.func24 (by kernel_rfl) rfl #[.pointer (some ⟨g, 0, none⟩), .slice (some ⟨go11, 0, none⟩) y381.length co29, .int .i64 ((rd_T68 s0_0 a2).f2), .int .i64 a3, .bool a4, .bool true] rfl qe5 ?_; (with_reducible refine (ih kj27 (by have := HJ27.out; omega) g s0_0 s0_1 (fun k_ => some k_ = (.slice (some ⟨go11, 0, none⟩) y381.length co29 : Value).ownBlock) (.slice (some ⟨go11, 0, none⟩) y381.length co29) y381 ((rd_T68 s0_0 a2).f2) a3 a4 true t390 t391 w0 _ ?side1 ?side2 ?side3 ?side4 A48.out).mono ?_); (case side1 => repeat (first | (with_reducible first | exact HI0.out | apply IsS66.alloc | apply IsS66.drewN | apply IsS66.drew | apply IsS66.set_1 | apply IsS66.far (hne := NB0_383.out)) | exact HI0.out)); (case side2 => repeat (first | (with_reducible first | exact HB.out | apply below_alloc | apply pw_below_drewN | apply below_drew1 | refine below_set ?_ (IsS66.ge HI0.out) | refine below_set ?_ GE383.out) | exact HB.out)); (case side3 => exact Kd.R_tight rfl HO_1.out); (case side4 => exact hT); rintro e w51 ⟨rfl, hi, hy0, hb, hkp⟩; refine ⟨_, rfl, ?_⟩; have n0_ := Aside0.mk (Kd.R_reok rfl hy0 (fun k_ e_ => HO_1.out.1 k_ e_)); have n1_ := Aside0.mk (blk_kept qe6 hkp (fun hs_ => Or.elim hs_ (fun hs_ => (fun e_ => (Kd.R_ne HO_1.out BK383.out (by decide)) e_) hs_) (fun e_ => NB383_0.out e_))); have n2_ := Aside0.mk (hi); have n3_ := Aside0.mk (Kept.then_ (S := (fun k_ => (P1_ k_) ∨ k_ = g)) qe0 hkp (fun k_ hs_ => Or.elim hs_ (fun hs_ => (fun e_ => Or.imp_left Or.inl ((HO_1.out.1 k_ e_.symm))) hs_) (fun e_ => .inl (.inr e_)))); have n4_ := Aside0.mk (hb); clear HO_1; clear BK383; clear HI0; clear HK; clear HB; have HO_1 := n0_; have BK383 := n1_; have HI0 := n2_; have HK := n3_; have HB := n4_; clear n0_ n1_ n2_ n3_ n4_; (try clear hb); (try clear hkp); (try clear hy0)))
           first | go_end0 | ((try simp only [Exit.inBlock, Exit.then]); refine bodyPost_ret (results_none rfl _ _ _) rfl ?_)
           exact ⟨by first | rfl | (simp [errW_none, errW_some] <;> rfl) | (simp [errW_none, errW_some] <;> first | rfl | exact isEmpty_bne _) | (simp [*, errW_none, errW_some] <;> rfl), by repeat (first | (with_reducible first | exact HI0.out | apply IsS66.alloc | apply IsS66.drewN | apply IsS66.drew | apply IsS66.set_1 | apply IsS66.far (hne := NB0_383.out)) | exact HI0.out), qe1, by repeat (first | (with_reducible first | exact HB.out | apply below_alloc | apply pw_below_drewN | apply below_drew1 | refine below_set ?_ (IsS66.ge HI0.out) | refine below_set ?_ GE383.out) | exact HB.out), by repeat (first | (with_reducible first | exact HK.out | apply Kept.alloc | apply Kept.drewN | apply Kept.drew | refine Kept.setCell ?_ (.inl (.inr rfl)) _ | refine Kept.setCell ?_ (.inr GW383.out) _) | exact HK.out)⟩
          ·replace c47 := Bool.eq_false_iff.mpr c47
           subst c47
           have H1 : (some (s0_1, y381)) = some (r1, r2) := by rw [if_neg (show ¬ (false = true) by decide)] at H; exact H
           clear H
           have H := H1
           clear H1
           simp only [Option.some.injEq, Prod.mk.injEq] at H
           obtain ⟨rfl, rfl⟩ := H
           have hnb52 := NB383_0.out
           have hnc52 := NB0_383.out
           have hcz53_0 : wc.cell? ⟨gb383, 0, none⟩ = some (.int .i64 ((rd_T68 s0_0 a2).f0)) := (blk_cell BK383.out 0).trans rfl
           have hcz53_1 : wc.cell? ⟨gb383, 1, none⟩ = some (.int .u64 ((rd_T68 s0_0 a2).f1.f0)) := (blk_cell BK383.out 1).trans rfl
           have hcz53_2 : wc.cell? ⟨gb383, 2, none⟩ = some (.int .u64 ((rd_T68 s0_0 a2).f1.f1)) := (blk_cell BK383.out 2).trans rfl
           have hcz53_3 : wc.cell? ⟨gb383, 3, none⟩ = some (.int .u64 ((rd_T68 s0_0 a2).f1.f2)) := (blk_cell BK383.out 3).trans rfl
           have hcz53_4 : wc.cell? ⟨gb383, 4, none⟩ = some (.int .u64 ((rd_T68 s0_0 a2).f1.f3)) := (blk_cell BK383.out 4).trans rfl
           have hcz53_5 : wc.cell? ⟨gb383, 5, none⟩ = some (.int .i64 ((rd_T68 s0_0 a2).f2)) := (blk_cell BK383.out 5).trans rfl
           have hcz53_6 : wc.cell? ⟨gb383, 6, none⟩ = some (.int .i64 ((rd_T68 s0_0 a2).f3)) := (blk_cell BK383.out 6).trans rfl
           have hfz53_0 := blk_frozen BK383.out 0
           have hfz53_1 := blk_frozen BK383.out 1
           have hfz53_2 := blk_frozen BK383.out 2
           have hfz53_3 := blk_frozen BK383.out 3
           have hfz53_4 := blk_frozen BK383.out 4
           have hfz53_5 := blk_frozen BK383.out 5
           have hfz53_6 := blk_frozen BK383.out 6
           go_wp2
           first | go_end0 | ((try simp only [Exit.inBlock, Exit.then]); refine bodyPost_ret (results_none rfl _ _ _) rfl ?_)
           exact ⟨by first | rfl | (simp [errW_none, errW_some] <;> rfl) | (simp [errW_none, errW_some] <;> first | rfl | exact isEmpty_bne _) | (simp [*, errW_none, errW_some] <;> rfl), by repeat (first | (with_reducible first | exact HI0.out | apply IsS66.alloc | apply IsS66.drewN | apply IsS66.drew | apply IsS66.set_1 | apply IsS66.far (hne := NB0_383.out)) | exact HI0.out), qe1, by repeat (first | (with_reducible first | exact HB.out | apply below_alloc | apply pw_below_drewN | apply below_drew1 | refine below_set ?_ (IsS66.ge HI0.out) | refine below_set ?_ GE383.out) | exact HB.out), by repeat (first | (with_reducible first | exact HK.out | apply Kept.alloc | apply Kept.drewN | apply Kept.drew | refine Kept.setCell ?_ (.inl (.inr rfl)) _ | refine Kept.setCell ?_ (.inr GW383.out) _) | exact HK.out)⟩
         ·rw [if_neg c46] at H
          have c46b0 : (((rd_T68 s0_0 a2).f0) == 3) = false := beq_eq_false_iff_ne.mpr c46
          have c46b1 : (((rd_T68 s0_0 a2).f0) != 3) = true := bne_iff_ne.mpr c46
          simp only [Option.some.injEq, Prod.mk.injEq] at H
          obtain ⟨rfl, rfl⟩ := H
          have hnb54 := NB383_0.out
          have hnc54 := NB0_383.out
          have hcz55_0 : wc.cell? ⟨gb383, 0, none⟩ = some (.int .i64 ((rd_T68 s0_0 a2).f0)) := (blk_cell BK383.out 0).trans rfl
          have hcz55_1 : wc.cell? ⟨gb383, 1, none⟩ = some (.int .u64 ((rd_T68 s0_0 a2).f1.f0)) := (blk_cell BK383.out 1).trans rfl
          have hcz55_2 : wc.cell? ⟨gb383, 2, none⟩ = some (.int .u64 ((rd_T68 s0_0 a2).f1.f1)) := (blk_cell BK383.out 2).trans rfl
          have hcz55_3 : wc.cell? ⟨gb383, 3, none⟩ = some (.int .u64 ((rd_T68 s0_0 a2).f1.f2)) := (blk_cell BK383.out 3).trans rfl
          have hcz55_4 : wc.cell? ⟨gb383, 4, none⟩ = some (.int .u64 ((rd_T68 s0_0 a2).f1.f3)) := (blk_cell BK383.out 4).trans rfl
          have hcz55_5 : wc.cell? ⟨gb383, 5, none⟩ = some (.int .i64 ((rd_T68 s0_0 a2).f2)) := (blk_cell BK383.out 5).trans rfl
          have hcz55_6 : wc.cell? ⟨gb383, 6, none⟩ = some (.int .i64 ((rd_T68 s0_0 a2).f3)) := (blk_cell BK383.out 6).trans rfl
          have hfz55_0 := blk_frozen BK383.out 0
          have hfz55_1 := blk_frozen BK383.out 1
          have hfz55_2 := blk_frozen BK383.out 2
          have hfz55_3 := blk_frozen BK383.out 3
          have hfz55_4 := blk_frozen BK383.out 4
          have hfz55_5 := blk_frozen BK383.out 5
          have hfz55_6 := blk_frozen BK383.out 6
          go_wp2
          first | go_end0 | ((try simp only [Exit.inBlock, Exit.then]); refine bodyPost_ret (results_none rfl _ _ _) rfl ?_)
          exact ⟨by first | rfl | (simp [errW_none, errW_some] <;> rfl) | (simp [errW_none, errW_some] <;> first | rfl | exact isEmpty_bne _) | (simp [*, errW_none, errW_some] <;> rfl), by repeat (first | (with_reducible first | exact HI0.out | apply IsS66.alloc | apply IsS66.drewN | apply IsS66.drew | apply IsS66.set_1 | apply IsS66.far (hne := NB0_383.out)) | exact HI0.out), qe1, by repeat (first | (with_reducible first | exact HB.out | apply below_alloc | apply pw_below_drewN | apply below_drew1 | refine below_set ?_ (IsS66.ge HI0.out) | refine below_set ?_ GE383.out) | exact HB.out), by repeat (first | (with_reducible first | exact HK.out | apply Kept.alloc | apply Kept.drewN | apply Kept.drew | refine Kept.setCell ?_ (.inl (.inr rfl)) _ | refine Kept.setCell ?_ (.inr GW383.out) _) | exact HK.out)⟩
    ·rw [if_neg c12] at H
     exact absurd H (by simp)
  ·rw [if_neg c8] at H
   exact absurd H (by simp)
 ·rw [if_neg c7] at H
  exact absurd H (by simp)

end Go.Proofs.Ythlffghlkggimaa.Pr
