/- The machine's side, written by a patched print (wip/tools): each theorem says that a call of the Go function comes to what the Lean function beside it computes, where the tables are laid (TB). -/
import Derived.Test.YtmhhklenaadobaaDoorPr0
import Derived.Test.YtmhhklenaadobaaDoorPr3
import Derived.Test.YtmhhklenaadobaaDoorPr5
import Derived.Test.YtmhhklenaadobaaDoorPr7
import Derived.Test.YtmhhklenaadobaaDoorPr8
import Derived.Test.YtmhhklenaadobaaDoorPr10
import Derived.Test.YtmhhklenaadobaaDoorPr11
namespace Go.Proofs.YtmhhklenaadobaaDoor.Pr
open Go.RowKit Go.Proofs.YtmhhklenaadobaaDoorW.PrintWords Go.Proofs.YtmhhklenaadobaaDoorW.PrintLast Go.Proofs.YtmhhklenaadobaaDoorW.PrintMore
attribute [local go_sem] fld27_0 fld27_1 fld27_2 fld38_0 fld38_1 fld38_2 binOp_string_gtr2 binOp_string_leq2 binOp_string_geq2 max2_int min2_int max_two min_two max_three min_three max_four min_four   -- for this text's walks alone
set_option linter.unusedVariables false
set_option linter.unusedSimpArgs false

/-! ### scribelaw06_CellTexts: function 3 -/
mutual
def scribelaw06_CellTexts.j0 : Nat → ByteArray → ByteArray → Int → Int → Bool → Option (Bool)
 | 0, _, _, _, _, _ => none
 | k + 1, x0, x1, x2, x3, x28 => if x28 = true then ((scribelaw06_awake.f k).bind fun t153 => (some t153)) else (if (Op.bytesLess x0.toList x1.toList) = true then (scribelaw06_CellTexts.j1 k x0 x1 x2 x3 (-1)) else (scribelaw06_CellTexts.j1 k x0 x1 x2 x3 0))
def scribelaw06_CellTexts.j1 : Nat → ByteArray → ByteArray → Int → Int → Int → Option (Bool)
 | 0, _, _, _, _, _ => none
 | k + 1, x0, x1, x2, x3, x9 => if (Op.bytesLess x1.toList x0.toList) = true then (scribelaw06_CellTexts.j2 k x0 x1 x2 x3 1) else (scribelaw06_CellTexts.j2 k x0 x1 x2 x3 x9)
def scribelaw06_CellTexts.j2 : Nat → ByteArray → ByteArray → Int → Int → Int → Option (Bool)
 | 0, _, _, _, _, _ => none
 | k + 1, x0, x1, x2, x3, x9 => if x2 < x3 then (scribelaw06_CellTexts.j3 k x0 x1 x2 x3 x9 (-1)) else (scribelaw06_CellTexts.j3 k x0 x1 x2 x3 x9 0)
def scribelaw06_CellTexts.j3 : Nat → ByteArray → ByteArray → Int → Int → Int → Int → Option (Bool)
 | 0, _, _, _, _, _, _ => none
 | k + 1, x0, x1, x2, x3, x9, x10 => if x2 > x3 then (scribelaw06_CellTexts.j4 k x0 x1 x2 x3 x9 1) else (scribelaw06_CellTexts.j4 k x0 x1 x2 x3 x9 x10)
def scribelaw06_CellTexts.j4 : Nat → ByteArray → ByteArray → Int → Int → Int → Int → Option (Bool)
 | 0, _, _, _, _, _, _ => none
 | k + 1, x0, x1, x2, x3, x9, x10 => (scribelaw06_awake.f k).bind fun t154 => (if t154 = true then ((cell_Text.f x0).bind fun bt155 => ((cell_Text.f x1).bind fun bt158 => ((cell_Compare.f k bt155.1 bt155.2.1 bt155.2.2 bt158.1 bt158.2.1 bt158.2.2).bind fun t161 => (if t161 = x9 then ((cell_Of.f x2).bind fun bt162 => ((cell_Of.f x3).bind fun bt165 => ((cell_Compare.f k bt162.1 bt162.2.1 bt162.2.2 bt165.1 bt165.2.1 bt165.2.2).bind fun t168 => (if t168 = x10 then ((num_Num_Text.f k x2).bind fun t169 => ((cell_Input.f k t169).bind fun bt170 => ((cell_Compare.f k bt170.1 bt170.2.1 bt170.2.2 bt165.1 bt165.2.1 bt165.2.2).bind fun t173 => (if t173 = x10 then ((cell_Input.f k x0).bind fun bt174 => (if bt174.1 = 3 then (some true) else ((cell_Compare.f k bt174.1 bt174.2.1 bt174.2.2 bt158.1 bt158.2.1 bt158.2.2).bind fun t177 => (some (t177 == x9))))) else (some false))))) else (some false))))) else (some false))))) else (some false))
end
def scribelaw06_CellTexts.f (k : Nat) (a0 : ByteArray) (a1 : ByteArray) (a2 : Int) (a3 : Int) : Option (Bool) := (scribelaw01_Cut.f a0 50).bind fun t151 => ((scribelaw01_Cut.f a1 50).bind fun t152 => (if a2 < (-4611686018427387903) then (scribelaw06_CellTexts.j0 k t151 t152 a2 a3 true) else (if a2 > 4611686018427387903 then (scribelaw06_CellTexts.j0 k t151 t152 a2 a3 true) else (if a3 < (-4611686018427387903) then (scribelaw06_CellTexts.j0 k t151 t152 a2 a3 true) else (scribelaw06_CellTexts.j0 k t151 t152 a2 a3 (decide (a3 > 4611686018427387903)))))))
theorem scribelaw06_CellTexts.mono_l : ∀ k, (∀ y0 y1 y2 y3 y4, LeO (scribelaw06_CellTexts.j0 k y0 y1 y2 y3 y4) (scribelaw06_CellTexts.j0 (k + 1) y0 y1 y2 y3 y4)) ∧ (∀ y0 y1 y2 y3 y4, LeO (scribelaw06_CellTexts.j1 k y0 y1 y2 y3 y4) (scribelaw06_CellTexts.j1 (k + 1) y0 y1 y2 y3 y4)) ∧ (∀ y0 y1 y2 y3 y4, LeO (scribelaw06_CellTexts.j2 k y0 y1 y2 y3 y4) (scribelaw06_CellTexts.j2 (k + 1) y0 y1 y2 y3 y4)) ∧ (∀ y0 y1 y2 y3 y4 y5, LeO (scribelaw06_CellTexts.j3 k y0 y1 y2 y3 y4 y5) (scribelaw06_CellTexts.j3 (k + 1) y0 y1 y2 y3 y4 y5)) ∧ (∀ y0 y1 y2 y3 y4 y5, LeO (scribelaw06_CellTexts.j4 k y0 y1 y2 y3 y4 y5) (scribelaw06_CellTexts.j4 (k + 1) y0 y1 y2 y3 y4 y5))
 | 0 => ⟨fun _ _ _ _ _ r h => by simp [scribelaw06_CellTexts.j0] at h, fun _ _ _ _ _ r h => by simp [scribelaw06_CellTexts.j1] at h, fun _ _ _ _ _ r h => by simp [scribelaw06_CellTexts.j2] at h, fun _ _ _ _ _ _ r h => by simp [scribelaw06_CellTexts.j3] at h, fun _ _ _ _ _ _ r h => by simp [scribelaw06_CellTexts.j4] at h⟩
 | k + 1 => by
  obtain ⟨ih0, ih1, ih2, ih3, ih4⟩ := scribelaw06_CellTexts.mono_l k
  refine ⟨?_, ?_, ?_, ?_, ?_⟩
  ·intro y0 y1 y2 y3 y4
   unfold scribelaw06_CellTexts.j0
   repeat' first
   | (with_reducible exact ih0 _ _ _ _ _)
   | (with_reducible exact ih1 _ _ _ _ _)
   | (with_reducible exact ih2 _ _ _ _ _)
   | (with_reducible exact ih3 _ _ _ _ _ _)
   | (with_reducible exact ih4 _ _ _ _ _ _)
   | (with_reducible exact cell_Compare.mono _ _ _ _ _ _ _)
   | (with_reducible exact cell_Input.mono _ _)
   | (with_reducible exact num_Num_Text.mono _ _)
   | (with_reducible exact scribelaw06_awake.mono _)
   | (with_reducible exact LeO.refl _)
   | (with_reducible exact LeO.none _)
   | (with_reducible refine LeO.ite ?_ ?_)
   | (with_reducible refine LeO.bind ?_ (fun _ => ?_))
   | exact ih0 _ _ _ _ _
   | exact ih1 _ _ _ _ _
   | exact ih2 _ _ _ _ _
   | exact ih3 _ _ _ _ _ _
   | exact ih4 _ _ _ _ _ _
   | exact cell_Compare.mono _ _ _ _ _ _ _
   | exact cell_Input.mono _ _
   | exact num_Num_Text.mono _ _
   | exact scribelaw06_awake.mono _
   | exact LeO.none _
   | refine LeO.ite ?_ ?_
   | refine LeO.bind ?_ (fun _ => ?_)
  ·intro y0 y1 y2 y3 y4
   unfold scribelaw06_CellTexts.j1
   repeat' first
   | (with_reducible exact ih0 _ _ _ _ _)
   | (with_reducible exact ih1 _ _ _ _ _)
   | (with_reducible exact ih2 _ _ _ _ _)
   | (with_reducible exact ih3 _ _ _ _ _ _)
   | (with_reducible exact ih4 _ _ _ _ _ _)
   | (with_reducible exact cell_Compare.mono _ _ _ _ _ _ _)
   | (with_reducible exact cell_Input.mono _ _)
   | (with_reducible exact num_Num_Text.mono _ _)
   | (with_reducible exact scribelaw06_awake.mono _)
   | (with_reducible exact LeO.refl _)
   | (with_reducible exact LeO.none _)
   | (with_reducible refine LeO.ite ?_ ?_)
   | (with_reducible refine LeO.bind ?_ (fun _ => ?_))
   | exact ih0 _ _ _ _ _
   | exact ih1 _ _ _ _ _
   | exact ih2 _ _ _ _ _
   | exact ih3 _ _ _ _ _ _
   | exact ih4 _ _ _ _ _ _
   | exact cell_Compare.mono _ _ _ _ _ _ _
   | exact cell_Input.mono _ _
   | exact num_Num_Text.mono _ _
   | exact scribelaw06_awake.mono _
   | exact LeO.none _
   | refine LeO.ite ?_ ?_
   | refine LeO.bind ?_ (fun _ => ?_)
  ·intro y0 y1 y2 y3 y4
   unfold scribelaw06_CellTexts.j2
   repeat' first
   | (with_reducible exact ih0 _ _ _ _ _)
   | (with_reducible exact ih1 _ _ _ _ _)
   | (with_reducible exact ih2 _ _ _ _ _)
   | (with_reducible exact ih3 _ _ _ _ _ _)
   | (with_reducible exact ih4 _ _ _ _ _ _)
   | (with_reducible exact cell_Compare.mono _ _ _ _ _ _ _)
   | (with_reducible exact cell_Input.mono _ _)
   | (with_reducible exact num_Num_Text.mono _ _)
   | (with_reducible exact scribelaw06_awake.mono _)
   | (with_reducible exact LeO.refl _)
   | (with_reducible exact LeO.none _)
   | (with_reducible refine LeO.ite ?_ ?_)
   | (with_reducible refine LeO.bind ?_ (fun _ => ?_))
   | exact ih0 _ _ _ _ _
   | exact ih1 _ _ _ _ _
   | exact ih2 _ _ _ _ _
   | exact ih3 _ _ _ _ _ _
   | exact ih4 _ _ _ _ _ _
   | exact cell_Compare.mono _ _ _ _ _ _ _
   | exact cell_Input.mono _ _
   | exact num_Num_Text.mono _ _
   | exact scribelaw06_awake.mono _
   | exact LeO.none _
   | refine LeO.ite ?_ ?_
   | refine LeO.bind ?_ (fun _ => ?_)
  ·intro y0 y1 y2 y3 y4 y5
   unfold scribelaw06_CellTexts.j3
   repeat' first
   | (with_reducible exact ih0 _ _ _ _ _)
   | (with_reducible exact ih1 _ _ _ _ _)
   | (with_reducible exact ih2 _ _ _ _ _)
   | (with_reducible exact ih3 _ _ _ _ _ _)
   | (with_reducible exact ih4 _ _ _ _ _ _)
   | (with_reducible exact cell_Compare.mono _ _ _ _ _ _ _)
   | (with_reducible exact cell_Input.mono _ _)
   | (with_reducible exact num_Num_Text.mono _ _)
   | (with_reducible exact scribelaw06_awake.mono _)
   | (with_reducible exact LeO.refl _)
   | (with_reducible exact LeO.none _)
   | (with_reducible refine LeO.ite ?_ ?_)
   | (with_reducible refine LeO.bind ?_ (fun _ => ?_))
   | exact ih0 _ _ _ _ _
   | exact ih1 _ _ _ _ _
   | exact ih2 _ _ _ _ _
   | exact ih3 _ _ _ _ _ _
   | exact ih4 _ _ _ _ _ _
   | exact cell_Compare.mono _ _ _ _ _ _ _
   | exact cell_Input.mono _ _
   | exact num_Num_Text.mono _ _
   | exact scribelaw06_awake.mono _
   | exact LeO.none _
   | refine LeO.ite ?_ ?_
   | refine LeO.bind ?_ (fun _ => ?_)
  ·intro y0 y1 y2 y3 y4 y5
   unfold scribelaw06_CellTexts.j4
   repeat' first
   | (with_reducible exact ih0 _ _ _ _ _)
   | (with_reducible exact ih1 _ _ _ _ _)
   | (with_reducible exact ih2 _ _ _ _ _)
   | (with_reducible exact ih3 _ _ _ _ _ _)
   | (with_reducible exact ih4 _ _ _ _ _ _)
   | (with_reducible exact cell_Compare.mono _ _ _ _ _ _ _)
   | (with_reducible exact cell_Input.mono _ _)
   | (with_reducible exact num_Num_Text.mono _ _)
   | (with_reducible exact scribelaw06_awake.mono _)
   | (with_reducible exact LeO.refl _)
   | (with_reducible exact LeO.none _)
   | (with_reducible refine LeO.ite ?_ ?_)
   | (with_reducible refine LeO.bind ?_ (fun _ => ?_))
   | exact ih0 _ _ _ _ _
   | exact ih1 _ _ _ _ _
   | exact ih2 _ _ _ _ _
   | exact ih3 _ _ _ _ _ _
   | exact ih4 _ _ _ _ _ _
   | exact cell_Compare.mono _ _ _ _ _ _ _
   | exact cell_Input.mono _ _
   | exact num_Num_Text.mono _ _
   | exact scribelaw06_awake.mono _
   | exact LeO.none _
   | refine LeO.ite ?_ ?_
   | refine LeO.bind ?_ (fun _ => ?_)
theorem scribelaw06_CellTexts.mono : ∀ a0 a1 a2 a3 k, LeO (scribelaw06_CellTexts.f k a0 a1 a2 a3) (scribelaw06_CellTexts.f (k + 1) a0 a1 a2 a3) := by
 intro a0 a1 a2 a3 k
 obtain ⟨ih0, ih1, ih2, ih3, ih4⟩ := scribelaw06_CellTexts.mono_l k
 unfold scribelaw06_CellTexts.f
 repeat' first
   | (with_reducible exact ih0 _ _ _ _ _)
   | (with_reducible exact ih1 _ _ _ _ _)
   | (with_reducible exact ih2 _ _ _ _ _)
   | (with_reducible exact ih3 _ _ _ _ _ _)
   | (with_reducible exact ih4 _ _ _ _ _ _)
   | (with_reducible exact cell_Compare.mono _ _ _ _ _ _ _)
   | (with_reducible exact cell_Input.mono _ _)
   | (with_reducible exact num_Num_Text.mono _ _)
   | (with_reducible exact scribelaw06_awake.mono _)
   | (with_reducible exact LeO.refl _)
   | (with_reducible exact LeO.none _)
   | (with_reducible refine LeO.ite ?_ ?_)
   | (with_reducible refine LeO.bind ?_ (fun _ => ?_))
   | exact ih0 _ _ _ _ _
   | exact ih1 _ _ _ _ _
   | exact ih2 _ _ _ _ _
   | exact ih3 _ _ _ _ _ _
   | exact ih4 _ _ _ _ _ _
   | exact cell_Compare.mono _ _ _ _ _ _ _
   | exact cell_Input.mono _ _
   | exact num_Num_Text.mono _ _
   | exact scribelaw06_awake.mono _
   | exact LeO.none _
   | refine LeO.ite ?_ ?_
   | refine LeO.bind ?_ (fun _ => ?_)
set_option maxHeartbeats 8000000 in
set_option maxRecDepth 100000 in
theorem scribelaw06_CellTexts.calls (k : Nat) (a0 : ByteArray) (a1 : ByteArray) (a2 : Int) (a3 : Int) (r : Bool) (w : World) (hT : TB w) (h : scribelaw06_CellTexts.f k a0 a1 a2 a3 = some r) :
  Calls Tryd.prog 3 #[.string a0, .string a1, .int .i64 a2, .int .i64 a3] w fun e w' => e = .returned (.bool r) ∧ Below w.heap.size w w' := by
 have HB := Aside0.mk (Below.refl w.heap.size w)
 have H : ((scribelaw01_Cut.f a0 50).bind fun t151 => ((scribelaw01_Cut.f a1 50).bind fun t152 => (if a2 < (-4611686018427387903) then (scribelaw06_CellTexts.j0 k t151 t152 a2 a3 true) else (if a2 > 4611686018427387903 then (scribelaw06_CellTexts.j0 k t151 t152 a2 a3 true) else (if a3 < (-4611686018427387903) then (scribelaw06_CellTexts.j0 k t151 t152 a2 a3 true) else (scribelaw06_CellTexts.j0 k t151 t152 a2 a3 (decide (a3 > 4611686018427387903)))))))) = some r := h
 clear h
 replace H := Option.bind_eq_some_iff.mp H
 obtain ⟨t151, A50, H⟩ := H
 replace H : ((scribelaw01_Cut.f a1 50).bind fun t152 => (if a2 < (-4611686018427387903) then (scribelaw06_CellTexts.j0 k t151 t152 a2 a3 true) else (if a2 > 4611686018427387903 then (scribelaw06_CellTexts.j0 k t151 t152 a2 a3 true) else (if a3 < (-4611686018427387903) then (scribelaw06_CellTexts.j0 k t151 t152 a2 a3 true) else (scribelaw06_CellTexts.j0 k t151 t152 a2 a3 (decide (a3 > 4611686018427387903))))))) = some r := H
 have A5 := Aside0.mk A50
 clear A50
 replace H := Option.bind_eq_some_iff.mp H
 obtain ⟨t152, A60, H⟩ := H
 replace H : (if a2 < (-4611686018427387903) then (scribelaw06_CellTexts.j0 k t151 t152 a2 a3 true) else (if a2 > 4611686018427387903 then (scribelaw06_CellTexts.j0 k t151 t152 a2 a3 true) else (if a3 < (-4611686018427387903) then (scribelaw06_CellTexts.j0 k t151 t152 a2 a3 true) else (scribelaw06_CellTexts.j0 k t151 t152 a2 a3 (decide (a3 > 4611686018427387903)))))) = some r := H
 have A6 := Aside0.mk A60
 clear A60
 have HC7 := Aside0.mk H
 clear H
 go_enter Tryd.func3, Tryd.ntmps3
 go_upto_region 2 with (first | ((with_reducible refine gate_callee (f := 10) rfl ?_); refine goesL_ (some 12) rfl rfl Tryd.func10 (by kernel_rfl) rfl #[.string a0, .int .i64 50] rfl (by (try simp only [List.map_toArray, List.map_cons, List.map_nil]); first | done | rfl | (simp only [List.length_drop, List.length_take]; rfl)) ?_; (with_reducible refine (scribelaw01_Cut.calls a0 50 t151 _ ?side1 A5.out).mono ?_); (case side1 => exact TB.below hT (by repeat (first | (with_reducible first | exact HB.out | apply below_alloc | apply pw_below_drewN | apply below_drew1) | exact HB.out))); rintro e w' ⟨rfl, ⟨nd, rfl⟩⟩; refine ⟨_, rfl, ?_⟩) | ((with_reducible refine gate_callee (f := 10) rfl ?_); refine goesL_ (some 14) rfl rfl Tryd.func10 (by kernel_rfl) rfl #[.string a1, .int .i64 50] rfl (by (try simp only [List.map_toArray, List.map_cons, List.map_nil]); first | done | rfl | (simp only [List.length_drop, List.length_take]; rfl)) ?_; (with_reducible refine (scribelaw01_Cut.calls a1 50 t152 _ ?side1 A6.out).mono ?_); (case side1 => exact TB.below hT (by repeat (first | (with_reducible first | exact HB.out | apply below_alloc | apply pw_below_drewN | apply below_drew1) | exact HB.out))); rintro e w' ⟨rfl, ⟨nd, rfl⟩⟩; refine ⟨_, rfl, ?_⟩))
 (try simp only [Act.put, List.setIfInBounds_toArray, List.set_cons_zero, List.set_cons_succ])
 go_cut [28] (fun v28 wc => ∃ (kq : Nat) (x28_6 : Bool), v28 = .bool x28_6 ∧ Aside0 (scribelaw06_CellTexts.j0 kq t151 t152 a2 a3 x28_6 = some r) ∧ Aside0 (kq ≤ k) ∧ Aside0 (Below w.heap.size w wc))
 case first =>
  have H := HC7.out
  clear HC7
  by_cases c8 : a2 < (-4611686018427387903)
  ·rw [if_pos c8] at H
   have c8b0 : decide (a2 < (-4611686018427387903)) = true := decide_eq_true c8
   clear c8
   (first | rw [c8b0] | (simp only [i64_w, i32_w]; rw [c8b0]) | skip)
   have H' := Aside0.mk H
   clear H
   go_wp2
   go_meet
   case rel => exact ⟨_, (true), (by first | rfl | (simp; done) | (simp [*]; done) | (simp; unfold wrap64; omega)), H', ⟨by first | omega | exact Nat.le_refl _⟩, ⟨by repeat (first | (with_reducible first | exact HB.out | apply below_alloc | apply pw_below_drewN | apply below_drew1) | exact HB.out)⟩⟩
  ·rw [if_neg c8] at H
   have c8b0 : decide (a2 < (-4611686018427387903)) = false := decide_eq_false c8
   clear c8
   (first | rw [c8b0] | (simp only [i64_w, i32_w]; rw [c8b0]) | skip)
   by_cases c9 : a2 > 4611686018427387903
   ·rw [if_pos c9] at H
    have c9b0 : decide (4611686018427387903 < a2) = true := decide_eq_true c9
    clear c9
    have H' := Aside0.mk H
    clear H
    go_wp2
    go_meet
    case rel => exact ⟨_, (true), (by first | rfl | (simp; done) | (simp [*]; done) | (simp; unfold wrap64; omega)), H', ⟨by first | omega | exact Nat.le_refl _⟩, ⟨by repeat (first | (with_reducible first | exact HB.out | apply below_alloc | apply pw_below_drewN | apply below_drew1) | exact HB.out)⟩⟩
   ·rw [if_neg c9] at H
    have c9b0 : decide (4611686018427387903 < a2) = false := decide_eq_false c9
    clear c9
    by_cases c10 : a3 < (-4611686018427387903)
    ·rw [if_pos c10] at H
     have c10b0 : decide (a3 < (-4611686018427387903)) = true := decide_eq_true c10
     clear c10
     have H' := Aside0.mk H
     clear H
     go_wp2
     go_meet
     case rel => exact ⟨_, (true), (by first | rfl | (simp; done) | (simp [*]; done) | (simp; unfold wrap64; omega)), H', ⟨by first | omega | exact Nat.le_refl _⟩, ⟨by repeat (first | (with_reducible first | exact HB.out | apply below_alloc | apply pw_below_drewN | apply below_drew1) | exact HB.out)⟩⟩
    ·rw [if_neg c10] at H
     have c10b0 : decide (a3 < (-4611686018427387903)) = false := decide_eq_false c10
     clear c10
     have H' := Aside0.mk H
     clear H
     go_wp2
     go_meet
     case rel => exact ⟨_, (decide (a3 > 4611686018427387903)), (by first | rfl | (simp; done) | (simp [*]; done) | (simp; unfold wrap64; omega)), H', ⟨by first | omega | exact Nat.le_refl _⟩, ⟨by repeat (first | (with_reducible first | exact HB.out | apply below_alloc | apply pw_below_drewN | apply below_drew1) | exact HB.out)⟩⟩
 case rest =>
  clear HC7
  try clear c1
  try clear p2
  try clear c3
  try clear p6
  try clear c8
  try clear c8b0
  try clear c9
  try clear c9b0
  try clear c10
  try clear c10b0
  obtain ⟨kq, x28_6, rfl, HA, HJ6, HB⟩ := hcut
  cases kq with
  | zero => exact absurd HA.out (by simp [scribelaw06_CellTexts.j0])
  | succ kj6 =>
   have H := HA.out
   clear HA
   simp only [scribelaw06_CellTexts.j0] at H
   by_cases c11 : x28_6 = true
   ·subst c11
    have H1 : ((scribelaw06_awake.f kj6).bind fun t153 => (some t153)) = some r := by rw [if_pos rfl] at H; exact H
    clear H
    have H := H1
    clear H1
    replace H := Option.bind_eq_some_iff.mp H
    obtain ⟨t153, A120, H⟩ := H
    replace H : (some t153) = some r := H
    have A12 := Aside0.mk A120
    clear A120
    obtain rfl := Option.some.inj H
    go_wp2_with (first | ((with_reducible refine gate_callee (f := 11) rfl ?_); refine goesL_ (some 29) rfl rfl Tryd.func11 (by kernel_rfl) rfl #[] rfl (by (try simp only [List.map_toArray, List.map_cons, List.map_nil]); first | done | rfl | (simp only [List.length_drop, List.length_take]; rfl)) ?_; (with_reducible refine (scribelaw06_awake.calls kj6  t153 _ ?side1 A12.out).mono ?_); (case side1 => exact TB.below hT (by repeat (first | (with_reducible first | exact HB.out | apply below_alloc | apply pw_below_drewN | apply below_drew1) | exact HB.out))); rintro e w13 ⟨rfl, hb⟩; refine ⟨_, rfl, ?_⟩; have n0_ := Aside0.mk (below_step (by repeat (first | (with_reducible first | exact HB.out | apply below_alloc | apply pw_below_drewN | apply below_drew1) | exact HB.out)) hb); clear HB; have HB := n0_; clear n0_; (try clear hb); (try clear hb2); (try clear hk); (try clear hi)))
    go_ret
    exact ⟨by first | rfl | (simp [errW_none, errW_some] <;> rfl) | (simp [errW_none, errW_some] <;> first | rfl | exact isEmpty_bne _) | (simp [*, errW_none, errW_some] <;> rfl), by repeat (first | (with_reducible first | exact HB.out | apply below_alloc | apply pw_below_drewN | apply below_drew1) | exact HB.out)⟩
   ·replace c11 := Bool.eq_false_iff.mpr c11
    subst c11
    have H1 : (if (Op.bytesLess t151.toList t152.toList) = true then (scribelaw06_CellTexts.j1 kj6 t151 t152 a2 a3 (-1)) else (scribelaw06_CellTexts.j1 kj6 t151 t152 a2 a3 0)) = some r := by rw [if_neg (show ¬ (false = true) by decide)] at H; exact H
    clear H
    have H := H1
    clear H1
    have HC14 := Aside0.mk H
    clear H
    go_upto_if 32 with (fail)
    go_cut [9] (fun v9 wc => ∃ (kq : Nat) (x9_13 : Int), v9 = .int .i64 x9_13 ∧ Aside0 (scribelaw06_CellTexts.j1 kq t151 t152 a2 a3 x9_13 = some r) ∧ Aside0 (kq ≤ kj6) ∧ Aside0 (Below w.heap.size w wc))
    case first =>
     have H := HC14.out
     clear HC14
     by_cases c15 : (Op.bytesLess t151.toList t152.toList) = true
     ·rw [if_pos c15] at H
      have c15b0 : (Op.bytesLess t151.toList t152.toList) = true := c15
      clear c15
      (first | rw [c15b0] | (simp only [i64_w, i32_w]; rw [c15b0]) | skip)
      have H' := Aside0.mk H
      clear H
      go_wp2
      go_meet
      case rel => exact ⟨_, ((-1)), (by first | rfl | (simp; done) | (simp [*]; done) | (simp; unfold wrap64; omega)), H', ⟨by have := HJ6.out; first | omega | exact Nat.le_refl _⟩, ⟨by repeat (first | (with_reducible first | exact HB.out | apply below_alloc | apply pw_below_drewN | apply below_drew1) | exact HB.out)⟩⟩
     ·rw [if_neg c15] at H
      have c15b0 : (Op.bytesLess t151.toList t152.toList) = false := by simpa using c15
      clear c15
      (first | rw [c15b0] | (simp only [i64_w, i32_w]; rw [c15b0]) | skip)
      have H' := Aside0.mk H
      clear H
      go_wp2
      go_meet
      case rel => exact ⟨_, (0), (by first | rfl | (simp; done) | (simp [*]; done) | (simp; unfold wrap64; omega)), H', ⟨by have := HJ6.out; first | omega | exact Nat.le_refl _⟩, ⟨by repeat (first | (with_reducible first | exact HB.out | apply below_alloc | apply pw_below_drewN | apply below_drew1) | exact HB.out)⟩⟩
    case rest =>
     clear HC14
     try clear c1
     try clear p2
     try clear c3
     try clear p6
     try clear c8
     try clear c8b0
     try clear c9
     try clear c9b0
     try clear c10
     try clear c10b0
     try clear c11
     try clear c15
     try clear c15b0
     try clear p2
     try clear p6
     obtain ⟨kq, x9_13, rfl, HA, HJ13, HB⟩ := hcut
     cases kq with
     | zero => exact absurd HA.out (by simp [scribelaw06_CellTexts.j1])
     | succ kj13 =>
      have H := HA.out
      clear HA
      simp only [scribelaw06_CellTexts.j1] at H
      have HC16 := Aside0.mk H
      clear H
      go_upto_if 35 with (fail)
      go_cut [9] (fun v9 wc => ∃ (kq : Nat) (x9_15 : Int), v9 = .int .i64 x9_15 ∧ Aside0 (scribelaw06_CellTexts.j2 kq t151 t152 a2 a3 x9_15 = some r) ∧ Aside0 (kq ≤ kj13) ∧ Aside0 (Below w.heap.size w wc))
      case first =>
       have H := HC16.out
       clear HC16
       by_cases c17 : (Op.bytesLess t152.toList t151.toList) = true
       ·rw [if_pos c17] at H
        have c17b0 : (Op.bytesLess t152.toList t151.toList) = true := c17
        clear c17
        (first | rw [c17b0] | (simp only [i64_w, i32_w]; rw [c17b0]) | skip)
        have H' := Aside0.mk H
        clear H
        go_wp2
        go_meet
        case rel => exact ⟨_, (1), (by first | rfl | (simp; done) | (simp [*]; done) | (simp; unfold wrap64; omega)), H', ⟨by have := HJ6.out; have := HJ13.out; first | omega | exact Nat.le_refl _⟩, ⟨by repeat (first | (with_reducible first | exact HB.out | apply below_alloc | apply pw_below_drewN | apply below_drew1) | exact HB.out)⟩⟩
       ·rw [if_neg c17] at H
        have c17b0 : (Op.bytesLess t152.toList t151.toList) = false := by simpa using c17
        clear c17
        (first | rw [c17b0] | (simp only [i64_w, i32_w]; rw [c17b0]) | skip)
        have H' := Aside0.mk H
        clear H
        go_wp2
        go_meet
        case rel => exact ⟨_, (x9_13), (by first | rfl | (simp; done) | (simp [*]; done) | (simp; unfold wrap64; omega)), H', ⟨by have := HJ6.out; have := HJ13.out; first | omega | exact Nat.le_refl _⟩, ⟨by repeat (first | (with_reducible first | exact HB.out | apply below_alloc | apply pw_below_drewN | apply below_drew1) | exact HB.out)⟩⟩
      case rest =>
       clear HC16
       try clear c1
       try clear p2
       try clear c3
       try clear p6
       try clear c8
       try clear c8b0
       try clear c9
       try clear c9b0
       try clear c10
       try clear c10b0
       try clear c11
       try clear c15
       try clear c15b0
       try clear c17
       try clear c17b0
       try clear p2
       try clear p6
       obtain ⟨kq, x9_15, rfl, HA, HJ15, HB⟩ := hcut
       cases kq with
       | zero => exact absurd HA.out (by simp [scribelaw06_CellTexts.j2])
       | succ kj15 =>
        have H := HA.out
        clear HA
        simp only [scribelaw06_CellTexts.j2] at H
        have HC18 := Aside0.mk H
        clear H
        go_upto_if 38 with (fail)
        go_cut [10] (fun v10 wc => ∃ (kq : Nat) (x10_17 : Int), v10 = .int .i64 x10_17 ∧ Aside0 (scribelaw06_CellTexts.j3 kq t151 t152 a2 a3 x9_15 x10_17 = some r) ∧ Aside0 (kq ≤ kj15) ∧ Aside0 (Below w.heap.size w wc))
        case first =>
         have H := HC18.out
         clear HC18
         by_cases c19 : a2 < a3
         ·rw [if_pos c19] at H
          have c19b0 : decide (a2 < a3) = true := decide_eq_true c19
          clear c19
          (first | rw [c19b0] | (simp only [i64_w, i32_w]; rw [c19b0]) | skip)
          have H' := Aside0.mk H
          clear H
          go_wp2
          go_meet
          case rel => exact ⟨_, ((-1)), (by first | rfl | (simp; done) | (simp [*]; done) | (simp; unfold wrap64; omega)), H', ⟨by have := HJ6.out; have := HJ13.out; have := HJ15.out; first | omega | exact Nat.le_refl _⟩, ⟨by repeat (first | (with_reducible first | exact HB.out | apply below_alloc | apply pw_below_drewN | apply below_drew1) | exact HB.out)⟩⟩
         ·rw [if_neg c19] at H
          have c19b0 : decide (a2 < a3) = false := decide_eq_false c19
          clear c19
          (first | rw [c19b0] | (simp only [i64_w, i32_w]; rw [c19b0]) | skip)
          have H' := Aside0.mk H
          clear H
          go_wp2
          go_meet
          case rel => exact ⟨_, (0), (by first | rfl | (simp; done) | (simp [*]; done) | (simp; unfold wrap64; omega)), H', ⟨by have := HJ6.out; have := HJ13.out; have := HJ15.out; first | omega | exact Nat.le_refl _⟩, ⟨by repeat (first | (with_reducible first | exact HB.out | apply below_alloc | apply pw_below_drewN | apply below_drew1) | exact HB.out)⟩⟩
        case rest =>
         clear HC18
         try clear c1
         try clear p2
         try clear c3
         try clear p6
         try clear c8
         try clear c8b0
         try clear c9
         try clear c9b0
         try clear c10
         try clear c10b0
         try clear c11
         try clear c15
         try clear c15b0
         try clear c17
         try clear c17b0
         try clear c19
         try clear c19b0
         try clear p2
         try clear p6
         obtain ⟨kq, x10_17, rfl, HA, HJ17, HB⟩ := hcut
         cases kq with
         | zero => exact absurd HA.out (by simp [scribelaw06_CellTexts.j3])
         | succ kj17 =>
          have H := HA.out
          clear HA
          simp only [scribelaw06_CellTexts.j3] at H
          have HC20 := Aside0.mk H
          clear H
          go_upto_if 41 with (fail)
          go_cut [10] (fun v10 wc => ∃ (kq : Nat) (x10_19 : Int), v10 = .int .i64 x10_19 ∧ Aside0 (scribelaw06_CellTexts.j4 kq t151 t152 a2 a3 x9_15 x10_19 = some r) ∧ Aside0 (kq ≤ kj17) ∧ Aside0 (Below w.heap.size w wc))
          case first =>
           have H := HC20.out
           clear HC20
           by_cases c21 : a2 > a3
           ·rw [if_pos c21] at H
            have c21b0 : decide (a3 < a2) = true := decide_eq_true c21
            clear c21
            (first | rw [c21b0] | (simp only [i64_w, i32_w]; rw [c21b0]) | skip)
            have H' := Aside0.mk H
            clear H
            go_wp2
            go_meet
            case rel => exact ⟨_, (1), (by first | rfl | (simp; done) | (simp [*]; done) | (simp; unfold wrap64; omega)), H', ⟨by have := HJ6.out; have := HJ13.out; have := HJ15.out; have := HJ17.out; first | omega | exact Nat.le_refl _⟩, ⟨by repeat (first | (with_reducible first | exact HB.out | apply below_alloc | apply pw_below_drewN | apply below_drew1) | exact HB.out)⟩⟩
           ·rw [if_neg c21] at H
            have c21b0 : decide (a3 < a2) = false := decide_eq_false c21
            clear c21
            (first | rw [c21b0] | (simp only [i64_w, i32_w]; rw [c21b0]) | skip)
            have H' := Aside0.mk H
            clear H
            go_wp2
            go_meet
            case rel => exact ⟨_, (x10_17), (by first | rfl | (simp; done) | (simp [*]; done) | (simp; unfold wrap64; omega)), H', ⟨by have := HJ6.out; have := HJ13.out; have := HJ15.out; have := HJ17.out; first | omega | exact Nat.le_refl _⟩, ⟨by repeat (first | (with_reducible first | exact HB.out | apply below_alloc | apply pw_below_drewN | apply below_drew1) | exact HB.out)⟩⟩
          case rest =>
           clear HC20
           try clear c1
           try clear c2
           try clear p2
           try clear c3
           try clear p6
           try clear c8
           try clear c8b0
           try clear c9
           try clear c9b0
           try clear c10
           try clear c10b0
           try clear c11
           try clear c15
           try clear c15b0
           try clear c17
           try clear c17b0
           try clear c19
           try clear c19b0
           try clear c21
           try clear c21b0
           try clear p2
           try clear p6
           obtain ⟨kq, x10_19, rfl, HA, HJ19, HB⟩ := hcut
           cases kq with
           | zero => exact absurd HA.out (by simp [scribelaw06_CellTexts.j4])
           | succ kj19 =>
            have H := HA.out
            clear HA
            simp only [scribelaw06_CellTexts.j4] at H
            replace H := Option.bind_eq_some_iff.mp H
            obtain ⟨t154, A220, H⟩ := H
            replace H : (if t154 = true then ((cell_Text.f t151).bind fun bt155 => ((cell_Text.f t152).bind fun bt158 => ((cell_Compare.f kj19 bt155.1 bt155.2.1 bt155.2.2 bt158.1 bt158.2.1 bt158.2.2).bind fun t161 => (if t161 = x9_15 then ((cell_Of.f a2).bind fun bt162 => ((cell_Of.f a3).bind fun bt165 => ((cell_Compare.f kj19 bt162.1 bt162.2.1 bt162.2.2 bt165.1 bt165.2.1 bt165.2.2).bind fun t168 => (if t168 = x10_19 then ((num_Num_Text.f kj19 a2).bind fun t169 => ((cell_Input.f kj19 t169).bind fun bt170 => ((cell_Compare.f kj19 bt170.1 bt170.2.1 bt170.2.2 bt165.1 bt165.2.1 bt165.2.2).bind fun t173 => (if t173 = x10_19 then ((cell_Input.f kj19 t151).bind fun bt174 => (if bt174.1 = 3 then (some true) else ((cell_Compare.f kj19 bt174.1 bt174.2.1 bt174.2.2 bt158.1 bt158.2.1 bt158.2.2).bind fun t177 => (some (t177 == x9_15))))) else (some false))))) else (some false))))) else (some false))))) else (some false)) = some r := H
            have A22 := Aside0.mk A220
            clear A220
            by_cases c23 : t154 = true
            ·subst c23
             have H1 : ((cell_Text.f t151).bind fun bt155 => ((cell_Text.f t152).bind fun bt158 => ((cell_Compare.f kj19 bt155.1 bt155.2.1 bt155.2.2 bt158.1 bt158.2.1 bt158.2.2).bind fun t161 => (if t161 = x9_15 then ((cell_Of.f a2).bind fun bt162 => ((cell_Of.f a3).bind fun bt165 => ((cell_Compare.f kj19 bt162.1 bt162.2.1 bt162.2.2 bt165.1 bt165.2.1 bt165.2.2).bind fun t168 => (if t168 = x10_19 then ((num_Num_Text.f kj19 a2).bind fun t169 => ((cell_Input.f kj19 t169).bind fun bt170 => ((cell_Compare.f kj19 bt170.1 bt170.2.1 bt170.2.2 bt165.1 bt165.2.1 bt165.2.2).bind fun t173 => (if t173 = x10_19 then ((cell_Input.f kj19 t151).bind fun bt174 => (if bt174.1 = 3 then (some true) else ((cell_Compare.f kj19 bt174.1 bt174.2.1 bt174.2.2 bt158.1 bt158.2.1 bt158.2.2).bind fun t177 => (some (t177 == x9_15))))) else (some false))))) else (some false))))) else (some false))))) = some r := by rw [if_pos rfl] at H; exact H
             clear H
             have H := H1
             clear H1
             replace H := Option.bind_eq_some_iff.mp H
             obtain ⟨⟨t155, t156, t157⟩, A240, H⟩ := H
             replace H : ((cell_Text.f t152).bind fun bt158 => ((cell_Compare.f kj19 t155 t156 t157 bt158.1 bt158.2.1 bt158.2.2).bind fun t161 => (if t161 = x9_15 then ((cell_Of.f a2).bind fun bt162 => ((cell_Of.f a3).bind fun bt165 => ((cell_Compare.f kj19 bt162.1 bt162.2.1 bt162.2.2 bt165.1 bt165.2.1 bt165.2.2).bind fun t168 => (if t168 = x10_19 then ((num_Num_Text.f kj19 a2).bind fun t169 => ((cell_Input.f kj19 t169).bind fun bt170 => ((cell_Compare.f kj19 bt170.1 bt170.2.1 bt170.2.2 bt165.1 bt165.2.1 bt165.2.2).bind fun t173 => (if t173 = x10_19 then ((cell_Input.f kj19 t151).bind fun bt174 => (if bt174.1 = 3 then (some true) else ((cell_Compare.f kj19 bt174.1 bt174.2.1 bt174.2.2 bt158.1 bt158.2.1 bt158.2.2).bind fun t177 => (some (t177 == x9_15))))) else (some false))))) else (some false))))) else (some false)))) = some r := H
             have A24 := Aside0.mk A240
             clear A240
             replace H := Option.bind_eq_some_iff.mp H
             obtain ⟨⟨t158, t159, t160⟩, A250, H⟩ := H
             replace H : ((cell_Compare.f kj19 t155 t156 t157 t158 t159 t160).bind fun t161 => (if t161 = x9_15 then ((cell_Of.f a2).bind fun bt162 => ((cell_Of.f a3).bind fun bt165 => ((cell_Compare.f kj19 bt162.1 bt162.2.1 bt162.2.2 bt165.1 bt165.2.1 bt165.2.2).bind fun t168 => (if t168 = x10_19 then ((num_Num_Text.f kj19 a2).bind fun t169 => ((cell_Input.f kj19 t169).bind fun bt170 => ((cell_Compare.f kj19 bt170.1 bt170.2.1 bt170.2.2 bt165.1 bt165.2.1 bt165.2.2).bind fun t173 => (if t173 = x10_19 then ((cell_Input.f kj19 t151).bind fun bt174 => (if bt174.1 = 3 then (some true) else ((cell_Compare.f kj19 bt174.1 bt174.2.1 bt174.2.2 t158 t159 t160).bind fun t177 => (some (t177 == x9_15))))) else (some false))))) else (some false))))) else (some false))) = some r := H
             have A25 := Aside0.mk A250
             clear A250
             replace H := Option.bind_eq_some_iff.mp H
             obtain ⟨t161, A260, H⟩ := H
             replace H : (if t161 = x9_15 then ((cell_Of.f a2).bind fun bt162 => ((cell_Of.f a3).bind fun bt165 => ((cell_Compare.f kj19 bt162.1 bt162.2.1 bt162.2.2 bt165.1 bt165.2.1 bt165.2.2).bind fun t168 => (if t168 = x10_19 then ((num_Num_Text.f kj19 a2).bind fun t169 => ((cell_Input.f kj19 t169).bind fun bt170 => ((cell_Compare.f kj19 bt170.1 bt170.2.1 bt170.2.2 bt165.1 bt165.2.1 bt165.2.2).bind fun t173 => (if t173 = x10_19 then ((cell_Input.f kj19 t151).bind fun bt174 => (if bt174.1 = 3 then (some true) else ((cell_Compare.f kj19 bt174.1 bt174.2.1 bt174.2.2 t158 t159 t160).bind fun t177 => (some (t177 == x9_15))))) else (some false))))) else (some false))))) else (some false)) = some r := H
             have A26 := Aside0.mk A260
             clear A260
             by_cases c27 : t161 = x9_15
             ·rw [if_pos c27] at H
              have c27b0 : (t161 == x9_15) = true := beq_iff_eq.mpr c27
              have c27b1 : (t161 != x9_15) = false := bne_eq_false_iff_eq.mpr c27
              clear c27
              replace H := Option.bind_eq_some_iff.mp H
              obtain ⟨⟨t162, t163, t164⟩, A280, H⟩ := H
              replace H : ((cell_Of.f a3).bind fun bt165 => ((cell_Compare.f kj19 t162 t163 t164 bt165.1 bt165.2.1 bt165.2.2).bind fun t168 => (if t168 = x10_19 then ((num_Num_Text.f kj19 a2).bind fun t169 => ((cell_Input.f kj19 t169).bind fun bt170 => ((cell_Compare.f kj19 bt170.1 bt170.2.1 bt170.2.2 bt165.1 bt165.2.1 bt165.2.2).bind fun t173 => (if t173 = x10_19 then ((cell_Input.f kj19 t151).bind fun bt174 => (if bt174.1 = 3 then (some true) else ((cell_Compare.f kj19 bt174.1 bt174.2.1 bt174.2.2 t158 t159 t160).bind fun t177 => (some (t177 == x9_15))))) else (some false))))) else (some false)))) = some r := H
              have A28 := Aside0.mk A280
              clear A280
              replace H := Option.bind_eq_some_iff.mp H
              obtain ⟨⟨t165, t166, t167⟩, A290, H⟩ := H
              replace H : ((cell_Compare.f kj19 t162 t163 t164 t165 t166 t167).bind fun t168 => (if t168 = x10_19 then ((num_Num_Text.f kj19 a2).bind fun t169 => ((cell_Input.f kj19 t169).bind fun bt170 => ((cell_Compare.f kj19 bt170.1 bt170.2.1 bt170.2.2 t165 t166 t167).bind fun t173 => (if t173 = x10_19 then ((cell_Input.f kj19 t151).bind fun bt174 => (if bt174.1 = 3 then (some true) else ((cell_Compare.f kj19 bt174.1 bt174.2.1 bt174.2.2 t158 t159 t160).bind fun t177 => (some (t177 == x9_15))))) else (some false))))) else (some false))) = some r := H
              have A29 := Aside0.mk A290
              clear A290
              replace H := Option.bind_eq_some_iff.mp H
              obtain ⟨t168, A300, H⟩ := H
              replace H : (if t168 = x10_19 then ((num_Num_Text.f kj19 a2).bind fun t169 => ((cell_Input.f kj19 t169).bind fun bt170 => ((cell_Compare.f kj19 bt170.1 bt170.2.1 bt170.2.2 t165 t166 t167).bind fun t173 => (if t173 = x10_19 then ((cell_Input.f kj19 t151).bind fun bt174 => (if bt174.1 = 3 then (some true) else ((cell_Compare.f kj19 bt174.1 bt174.2.1 bt174.2.2 t158 t159 t160).bind fun t177 => (some (t177 == x9_15))))) else (some false))))) else (some false)) = some r := H
              have A30 := Aside0.mk A300
              clear A300
              by_cases c31 : t168 = x10_19
              ·rw [if_pos c31] at H
               have c31b0 : (t168 == x10_19) = true := beq_iff_eq.mpr c31
               have c31b1 : (t168 != x10_19) = false := bne_eq_false_iff_eq.mpr c31
               clear c31
               replace H := Option.bind_eq_some_iff.mp H
               obtain ⟨t169, A320, H⟩ := H
               replace H : ((cell_Input.f kj19 t169).bind fun bt170 => ((cell_Compare.f kj19 bt170.1 bt170.2.1 bt170.2.2 t165 t166 t167).bind fun t173 => (if t173 = x10_19 then ((cell_Input.f kj19 t151).bind fun bt174 => (if bt174.1 = 3 then (some true) else ((cell_Compare.f kj19 bt174.1 bt174.2.1 bt174.2.2 t158 t159 t160).bind fun t177 => (some (t177 == x9_15))))) else (some false)))) = some r := H
               have A32 := Aside0.mk A320
               clear A320
               replace H := Option.bind_eq_some_iff.mp H
               obtain ⟨⟨t170, t171, t172⟩, A330, H⟩ := H
               replace H : ((cell_Compare.f kj19 t170 t171 t172 t165 t166 t167).bind fun t173 => (if t173 = x10_19 then ((cell_Input.f kj19 t151).bind fun bt174 => (if bt174.1 = 3 then (some true) else ((cell_Compare.f kj19 bt174.1 bt174.2.1 bt174.2.2 t158 t159 t160).bind fun t177 => (some (t177 == x9_15))))) else (some false))) = some r := H
               have A33 := Aside0.mk A330
               clear A330
               replace H := Option.bind_eq_some_iff.mp H
               obtain ⟨t173, A340, H⟩ := H
               replace H : (if t173 = x10_19 then ((cell_Input.f kj19 t151).bind fun bt174 => (if bt174.1 = 3 then (some true) else ((cell_Compare.f kj19 bt174.1 bt174.2.1 bt174.2.2 t158 t159 t160).bind fun t177 => (some (t177 == x9_15))))) else (some false)) = some r := H
               have A34 := Aside0.mk A340
               clear A340
               by_cases c35 : t173 = x10_19
               ·rw [if_pos c35] at H
                have c35b0 : (t173 == x10_19) = true := beq_iff_eq.mpr c35
                have c35b1 : (t173 != x10_19) = false := bne_eq_false_iff_eq.mpr c35
                clear c35
                replace H := Option.bind_eq_some_iff.mp H
                obtain ⟨⟨t174, t175, t176⟩, A360, H⟩ := H
                replace H : (if t174 = 3 then (some true) else ((cell_Compare.f kj19 t174 t175 t176 t158 t159 t160).bind fun t177 => (some (t177 == x9_15)))) = some r := H
                have A36 := Aside0.mk A360
                clear A360
                by_cases c37 : t174 = 3
                ·rw [if_pos c37] at H
                 have c37b0 : (t174 == 3) = true := beq_iff_eq.mpr c37
                 have c37b1 : (t174 != 3) = false := bne_eq_false_iff_eq.mpr c37
                 clear c37
                 obtain rfl := Option.some.inj H
                 go_wp2_with (first | ((with_reducible refine gate_callee (f := 11) rfl ?_); refine goesL_ (some 42) rfl rfl Tryd.func11 (by kernel_rfl) rfl #[] rfl (by (try simp only [List.map_toArray, List.map_cons, List.map_nil]); first | done | rfl | (simp only [List.length_drop, List.length_take]; rfl)) ?_; (with_reducible refine (scribelaw06_awake.calls kj19  true _ ?side1 A22.out).mono ?_); (case side1 => exact TB.below hT (by repeat (first | (with_reducible first | exact HB.out | apply below_alloc | apply pw_below_drewN | apply below_drew1) | exact HB.out))); rintro e w38 ⟨rfl, hb⟩; refine ⟨_, rfl, ?_⟩; have n0_ := Aside0.mk (below_step (by repeat (first | (with_reducible first | exact HB.out | apply below_alloc | apply pw_below_drewN | apply below_drew1) | exact HB.out)) hb); clear HB; have HB := n0_; clear n0_; (try clear hb); (try clear hb2); (try clear hk); (try clear hi)) | (go_at_call 13; (with_reducible refine (cell_Text.calls t151 t155 t156 t157 _ ?side1 A24.out).mono ?_); (case side1 => exact TB.below hT (by repeat (first | (with_reducible first | exact HB.out | apply below_alloc | apply pw_below_drewN | apply below_drew1) | exact HB.out))); rintro e w39 ⟨rfl, hb⟩; have n0_ := Aside0.mk (below_step (by repeat (first | (with_reducible first | exact HB.out | apply below_alloc | apply pw_below_drewN | apply below_drew1) | exact HB.out)) hb); clear HB; have HB := n0_; clear n0_; (try clear hb); (try clear hb2); (try clear hk); (try clear hi)) | (go_at_call 13; (with_reducible refine (cell_Text.calls t152 t158 t159 t160 _ ?side1 A25.out).mono ?_); (case side1 => exact TB.below hT (by repeat (first | (with_reducible first | exact HB.out | apply below_alloc | apply pw_below_drewN | apply below_drew1) | exact HB.out))); rintro e w40 ⟨rfl, hb⟩; have n0_ := Aside0.mk (below_step (by repeat (first | (with_reducible first | exact HB.out | apply below_alloc | apply pw_below_drewN | apply below_drew1) | exact HB.out)) hb); clear HB; have HB := n0_; clear n0_; (try clear hb); (try clear hb2); (try clear hk); (try clear hi)) | (go_at_call 12; (with_reducible refine (cell_Compare.calls kj19 t155 t156 t157 t158 t159 t160 t161 _ ?side1 A26.out).mono ?_); (case side1 => exact TB.below hT (by repeat (first | (with_reducible first | exact HB.out | apply below_alloc | apply pw_below_drewN | apply below_drew1) | exact HB.out))); rintro e w41 ⟨rfl, hb⟩; have n0_ := Aside0.mk (below_step (by repeat (first | (with_reducible first | exact HB.out | apply below_alloc | apply pw_below_drewN | apply below_drew1) | exact HB.out)) hb); clear HB; have HB := n0_; clear n0_; (try clear hb); (try clear hb2); (try clear hk); (try clear hi)) | (go_at_call 14; (with_reducible refine (cell_Of.calls a2 t162 t163 t164 _ ?side1 A28.out).mono ?_); (case side1 => exact TB.below hT (by repeat (first | (with_reducible first | exact HB.out | apply below_alloc | apply pw_below_drewN | apply below_drew1) | exact HB.out))); rintro e w42 ⟨rfl, hb⟩; have n0_ := Aside0.mk (below_step (by repeat (first | (with_reducible first | exact HB.out | apply below_alloc | apply pw_below_drewN | apply below_drew1) | exact HB.out)) hb); clear HB; have HB := n0_; clear n0_; (try clear hb); (try clear hb2); (try clear hk); (try clear hi)) | (go_at_call 14; (with_reducible refine (cell_Of.calls a3 t165 t166 t167 _ ?side1 A29.out).mono ?_); (case side1 => exact TB.below hT (by repeat (first | (with_reducible first | exact HB.out | apply below_alloc | apply pw_below_drewN | apply below_drew1) | exact HB.out))); rintro e w43 ⟨rfl, hb⟩; have n0_ := Aside0.mk (below_step (by repeat (first | (with_reducible first | exact HB.out | apply below_alloc | apply pw_below_drewN | apply below_drew1) | exact HB.out)) hb); clear HB; have HB := n0_; clear n0_; (try clear hb); (try clear hb2); (try clear hk); (try clear hi)) | (go_at_call 12; (with_reducible refine (cell_Compare.calls kj19 t162 t163 t164 t165 t166 t167 t168 _ ?side1 A30.out).mono ?_); (case side1 => exact TB.below hT (by repeat (first | (with_reducible first | exact HB.out | apply below_alloc | apply pw_below_drewN | apply below_drew1) | exact HB.out))); rintro e w44 ⟨rfl, hb⟩; have n0_ := Aside0.mk (below_step (by repeat (first | (with_reducible first | exact HB.out | apply below_alloc | apply pw_below_drewN | apply below_drew1) | exact HB.out)) hb); clear HB; have HB := n0_; clear n0_; (try clear hb); (try clear hb2); (try clear hk); (try clear hi)) | (go_at_call 16; (with_reducible refine (num_Num_Text.calls kj19 a2 t169 _ ?side1 A32.out).mono ?_); (case side1 => exact TB.below hT (by repeat (first | (with_reducible first | exact HB.out | apply below_alloc | apply pw_below_drewN | apply below_drew1) | exact HB.out))); rintro e w45 ⟨rfl, hb⟩; have n0_ := Aside0.mk (below_step (by repeat (first | (with_reducible first | exact HB.out | apply below_alloc | apply pw_below_drewN | apply below_drew1) | exact HB.out)) hb); clear HB; have HB := n0_; clear n0_; (try clear hb); (try clear hb2); (try clear hk); (try clear hi)) | (go_at_call 15; (with_reducible refine (cell_Input.calls kj19 t169 t170 t171 t172 _ ?side1 A33.out).mono ?_); (case side1 => exact TB.below hT (by repeat (first | (with_reducible first | exact HB.out | apply below_alloc | apply pw_below_drewN | apply below_drew1) | exact HB.out))); rintro e w46 ⟨rfl, hb⟩; have n0_ := Aside0.mk (below_step (by repeat (first | (with_reducible first | exact HB.out | apply below_alloc | apply pw_below_drewN | apply below_drew1) | exact HB.out)) hb); clear HB; have HB := n0_; clear n0_; (try clear hb); (try clear hb2); (try clear hk); (try clear hi)) | (go_at_call 12; (with_reducible refine (cell_Compare.calls kj19 t170 t171 t172 t165 t166 t167 t173 _ ?side1 A34.out).mono ?_); (case side1 => exact TB.below hT (by repeat (first | (with_reducible first | exact HB.out | apply below_alloc | apply pw_below_drewN | apply below_drew1) | exact HB.out))); rintro e w47 ⟨rfl, hb⟩; have n0_ := Aside0.mk (below_step (by repeat (first | (with_reducible first | exact HB.out | apply below_alloc | apply pw_below_drewN | apply below_drew1) | exact HB.out)) hb); clear HB; have HB := n0_; clear n0_; (try clear hb); (try clear hb2); (try clear hk); (try clear hi)) | (go_at_call 15; (with_reducible refine (cell_Input.calls kj19 t151 t174 t175 t176 _ ?side1 A36.out).mono ?_); (case side1 => exact TB.below hT (by repeat (first | (with_reducible first | exact HB.out | apply below_alloc | apply pw_below_drewN | apply below_drew1) | exact HB.out))); rintro e w48 ⟨rfl, hb⟩; have n0_ := Aside0.mk (below_step (by repeat (first | (with_reducible first | exact HB.out | apply below_alloc | apply pw_below_drewN | apply below_drew1) | exact HB.out)) hb); clear HB; have HB := n0_; clear n0_; (try clear hb); (try clear hb2); (try clear hk); (try clear hi)))
                 go_ret
                 exact ⟨by first | rfl | (simp [errW_none, errW_some] <;> rfl) | (simp [errW_none, errW_some] <;> first | rfl | exact isEmpty_bne _) | (simp [*, errW_none, errW_some] <;> rfl), by repeat (first | (with_reducible first | exact HB.out | apply below_alloc | apply pw_below_drewN | apply below_drew1) | exact HB.out)⟩
                ·rw [if_neg c37] at H
                 have c37b0 : (t174 == 3) = false := beq_eq_false_iff_ne.mpr c37
                 have c37b1 : (t174 != 3) = true := bne_iff_ne.mpr c37
                 replace H := Option.bind_eq_some_iff.mp H
                 obtain ⟨t177, A490, H⟩ := H
                 replace H : (some (t177 == x9_15)) = some r := H
                 have A49 := Aside0.mk A490
                 clear A490
                 obtain rfl := Option.some.inj H
                 go_wp2_with (first | ((with_reducible refine gate_callee (f := 11) rfl ?_); refine goesL_ (some 42) rfl rfl Tryd.func11 (by kernel_rfl) rfl #[] rfl (by (try simp only [List.map_toArray, List.map_cons, List.map_nil]); first | done | rfl | (simp only [List.length_drop, List.length_take]; rfl)) ?_; (with_reducible refine (scribelaw06_awake.calls kj19  true _ ?side1 A22.out).mono ?_); (case side1 => exact TB.below hT (by repeat (first | (with_reducible first | exact HB.out | apply below_alloc | apply pw_below_drewN | apply below_drew1) | exact HB.out))); rintro e w50 ⟨rfl, hb⟩; refine ⟨_, rfl, ?_⟩; have n0_ := Aside0.mk (below_step (by repeat (first | (with_reducible first | exact HB.out | apply below_alloc | apply pw_below_drewN | apply below_drew1) | exact HB.out)) hb); clear HB; have HB := n0_; clear n0_; (try clear hb); (try clear hb2); (try clear hk); (try clear hi)) | (go_at_call 13; (with_reducible refine (cell_Text.calls t151 t155 t156 t157 _ ?side1 A24.out).mono ?_); (case side1 => exact TB.below hT (by repeat (first | (with_reducible first | exact HB.out | apply below_alloc | apply pw_below_drewN | apply below_drew1) | exact HB.out))); rintro e w51 ⟨rfl, hb⟩; have n0_ := Aside0.mk (below_step (by repeat (first | (with_reducible first | exact HB.out | apply below_alloc | apply pw_below_drewN | apply below_drew1) | exact HB.out)) hb); clear HB; have HB := n0_; clear n0_; (try clear hb); (try clear hb2); (try clear hk); (try clear hi)) | (go_at_call 13; (with_reducible refine (cell_Text.calls t152 t158 t159 t160 _ ?side1 A25.out).mono ?_); (case side1 => exact TB.below hT (by repeat (first | (with_reducible first | exact HB.out | apply below_alloc | apply pw_below_drewN | apply below_drew1) | exact HB.out))); rintro e w52 ⟨rfl, hb⟩; have n0_ := Aside0.mk (below_step (by repeat (first | (with_reducible first | exact HB.out | apply below_alloc | apply pw_below_drewN | apply below_drew1) | exact HB.out)) hb); clear HB; have HB := n0_; clear n0_; (try clear hb); (try clear hb2); (try clear hk); (try clear hi)) | (go_at_call 12; (with_reducible refine (cell_Compare.calls kj19 t155 t156 t157 t158 t159 t160 t161 _ ?side1 A26.out).mono ?_); (case side1 => exact TB.below hT (by repeat (first | (with_reducible first | exact HB.out | apply below_alloc | apply pw_below_drewN | apply below_drew1) | exact HB.out))); rintro e w53 ⟨rfl, hb⟩; have n0_ := Aside0.mk (below_step (by repeat (first | (with_reducible first | exact HB.out | apply below_alloc | apply pw_below_drewN | apply below_drew1) | exact HB.out)) hb); clear HB; have HB := n0_; clear n0_; (try clear hb); (try clear hb2); (try clear hk); (try clear hi)) | (go_at_call 14; (with_reducible refine (cell_Of.calls a2 t162 t163 t164 _ ?side1 A28.out).mono ?_); (case side1 => exact TB.below hT (by repeat (first | (with_reducible first | exact HB.out | apply below_alloc | apply pw_below_drewN | apply below_drew1) | exact HB.out))); rintro e w54 ⟨rfl, hb⟩; have n0_ := Aside0.mk (below_step (by repeat (first | (with_reducible first | exact HB.out | apply below_alloc | apply pw_below_drewN | apply below_drew1) | exact HB.out)) hb); clear HB; have HB := n0_; clear n0_; (try clear hb); (try clear hb2); (try clear hk); (try clear hi)) | (go_at_call 14; (with_reducible refine (cell_Of.calls a3 t165 t166 t167 _ ?side1 A29.out).mono ?_); (case side1 => exact TB.below hT (by repeat (first | (with_reducible first | exact HB.out | apply below_alloc | apply pw_below_drewN | apply below_drew1) | exact HB.out))); rintro e w55 ⟨rfl, hb⟩; have n0_ := Aside0.mk (below_step (by repeat (first | (with_reducible first | exact HB.out | apply below_alloc | apply pw_below_drewN | apply below_drew1) | exact HB.out)) hb); clear HB; have HB := n0_; clear n0_; (try clear hb); (try clear hb2); (try clear hk); (try clear hi)) | (go_at_call 12; (with_reducible refine (cell_Compare.calls kj19 t162 t163 t164 t165 t166 t167 t168 _ ?side1 A30.out).mono ?_); (case side1 => exact TB.below hT (by repeat (first | (with_reducible first | exact HB.out | apply below_alloc | apply pw_below_drewN | apply below_drew1) | exact HB.out))); rintro e w56 ⟨rfl, hb⟩; have n0_ := Aside0.mk (below_step (by repeat (first | (with_reducible first | exact HB.out | apply below_alloc | apply pw_below_drewN | apply below_drew1) | exact HB.out)) hb); clear HB; have HB := n0_; clear n0_; (try clear hb); (try clear hb2); (try clear hk); (try clear hi)) | (go_at_call 16; (with_reducible refine (num_Num_Text.calls kj19 a2 t169 _ ?side1 A32.out).mono ?_); (case side1 => exact TB.below hT (by repeat (first | (with_reducible first | exact HB.out | apply below_alloc | apply pw_below_drewN | apply below_drew1) | exact HB.out))); rintro e w57 ⟨rfl, hb⟩; have n0_ := Aside0.mk (below_step (by repeat (first | (with_reducible first | exact HB.out | apply below_alloc | apply pw_below_drewN | apply below_drew1) | exact HB.out)) hb); clear HB; have HB := n0_; clear n0_; (try clear hb); (try clear hb2); (try clear hk); (try clear hi)) | (go_at_call 15; (with_reducible refine (cell_Input.calls kj19 t169 t170 t171 t172 _ ?side1 A33.out).mono ?_); (case side1 => exact TB.below hT (by repeat (first | (with_reducible first | exact HB.out | apply below_alloc | apply pw_below_drewN | apply below_drew1) | exact HB.out))); rintro e w58 ⟨rfl, hb⟩; have n0_ := Aside0.mk (below_step (by repeat (first | (with_reducible first | exact HB.out | apply below_alloc | apply pw_below_drewN | apply below_drew1) | exact HB.out)) hb); clear HB; have HB := n0_; clear n0_; (try clear hb); (try clear hb2); (try clear hk); (try clear hi)) | (go_at_call 12; (with_reducible refine (cell_Compare.calls kj19 t170 t171 t172 t165 t166 t167 t173 _ ?side1 A34.out).mono ?_); (case side1 => exact TB.below hT (by repeat (first | (with_reducible first | exact HB.out | apply below_alloc | apply pw_below_drewN | apply below_drew1) | exact HB.out))); rintro e w59 ⟨rfl, hb⟩; have n0_ := Aside0.mk (below_step (by repeat (first | (with_reducible first | exact HB.out | apply below_alloc | apply pw_below_drewN | apply below_drew1) | exact HB.out)) hb); clear HB; have HB := n0_; clear n0_; (try clear hb); (try clear hb2); (try clear hk); (try clear hi)) | (go_at_call 15; (with_reducible refine (cell_Input.calls kj19 t151 t174 t175 t176 _ ?side1 A36.out).mono ?_); (case side1 => exact TB.below hT (by repeat (first | (with_reducible first | exact HB.out | apply below_alloc | apply pw_below_drewN | apply below_drew1) | exact HB.out))); rintro e w60 ⟨rfl, hb⟩; have n0_ := Aside0.mk (below_step (by repeat (first | (with_reducible first | exact HB.out | apply below_alloc | apply pw_below_drewN | apply below_drew1) | exact HB.out)) hb); clear HB; have HB := n0_; clear n0_; (try clear hb); (try clear hb2); (try clear hk); (try clear hi)) | (go_at_call 12; (with_reducible refine (cell_Compare.calls kj19 t174 t175 t176 t158 t159 t160 t177 _ ?side1 A49.out).mono ?_); (case side1 => exact TB.below hT (by repeat (first | (with_reducible first | exact HB.out | apply below_alloc | apply pw_below_drewN | apply below_drew1) | exact HB.out))); rintro e w61 ⟨rfl, hb⟩; have n0_ := Aside0.mk (below_step (by repeat (first | (with_reducible first | exact HB.out | apply below_alloc | apply pw_below_drewN | apply below_drew1) | exact HB.out)) hb); clear HB; have HB := n0_; clear n0_; (try clear hb); (try clear hb2); (try clear hk); (try clear hi)))
                 go_ret
                 exact ⟨by first | rfl | (simp [errW_none, errW_some] <;> rfl) | (simp [errW_none, errW_some] <;> first | rfl | exact isEmpty_bne _) | (simp [*, errW_none, errW_some] <;> rfl), by repeat (first | (with_reducible first | exact HB.out | apply below_alloc | apply pw_below_drewN | apply below_drew1) | exact HB.out)⟩
               ·rw [if_neg c35] at H
                have c35b0 : (t173 == x10_19) = false := beq_eq_false_iff_ne.mpr c35
                have c35b1 : (t173 != x10_19) = true := bne_iff_ne.mpr c35
                obtain rfl := Option.some.inj H
                go_wp2_with (first | ((with_reducible refine gate_callee (f := 11) rfl ?_); refine goesL_ (some 42) rfl rfl Tryd.func11 (by kernel_rfl) rfl #[] rfl (by (try simp only [List.map_toArray, List.map_cons, List.map_nil]); first | done | rfl | (simp only [List.length_drop, List.length_take]; rfl)) ?_; (with_reducible refine (scribelaw06_awake.calls kj19  true _ ?side1 A22.out).mono ?_); (case side1 => exact TB.below hT (by repeat (first | (with_reducible first | exact HB.out | apply below_alloc | apply pw_below_drewN | apply below_drew1) | exact HB.out))); rintro e w62 ⟨rfl, hb⟩; refine ⟨_, rfl, ?_⟩; have n0_ := Aside0.mk (below_step (by repeat (first | (with_reducible first | exact HB.out | apply below_alloc | apply pw_below_drewN | apply below_drew1) | exact HB.out)) hb); clear HB; have HB := n0_; clear n0_; (try clear hb); (try clear hb2); (try clear hk); (try clear hi)) | (go_at_call 13; (with_reducible refine (cell_Text.calls t151 t155 t156 t157 _ ?side1 A24.out).mono ?_); (case side1 => exact TB.below hT (by repeat (first | (with_reducible first | exact HB.out | apply below_alloc | apply pw_below_drewN | apply below_drew1) | exact HB.out))); rintro e w63 ⟨rfl, hb⟩; have n0_ := Aside0.mk (below_step (by repeat (first | (with_reducible first | exact HB.out | apply below_alloc | apply pw_below_drewN | apply below_drew1) | exact HB.out)) hb); clear HB; have HB := n0_; clear n0_; (try clear hb); (try clear hb2); (try clear hk); (try clear hi)) | (go_at_call 13; (with_reducible refine (cell_Text.calls t152 t158 t159 t160 _ ?side1 A25.out).mono ?_); (case side1 => exact TB.below hT (by repeat (first | (with_reducible first | exact HB.out | apply below_alloc | apply pw_below_drewN | apply below_drew1) | exact HB.out))); rintro e w64 ⟨rfl, hb⟩; have n0_ := Aside0.mk (below_step (by repeat (first | (with_reducible first | exact HB.out | apply below_alloc | apply pw_below_drewN | apply below_drew1) | exact HB.out)) hb); clear HB; have HB := n0_; clear n0_; (try clear hb); (try clear hb2); (try clear hk); (try clear hi)) | (go_at_call 12; (with_reducible refine (cell_Compare.calls kj19 t155 t156 t157 t158 t159 t160 t161 _ ?side1 A26.out).mono ?_); (case side1 => exact TB.below hT (by repeat (first | (with_reducible first | exact HB.out | apply below_alloc | apply pw_below_drewN | apply below_drew1) | exact HB.out))); rintro e w65 ⟨rfl, hb⟩; have n0_ := Aside0.mk (below_step (by repeat (first | (with_reducible first | exact HB.out | apply below_alloc | apply pw_below_drewN | apply below_drew1) | exact HB.out)) hb); clear HB; have HB := n0_; clear n0_; (try clear hb); (try clear hb2); (try clear hk); (try clear hi)) | (go_at_call 14; (with_reducible refine (cell_Of.calls a2 t162 t163 t164 _ ?side1 A28.out).mono ?_); (case side1 => exact TB.below hT (by repeat (first | (with_reducible first | exact HB.out | apply below_alloc | apply pw_below_drewN | apply below_drew1) | exact HB.out))); rintro e w66 ⟨rfl, hb⟩; have n0_ := Aside0.mk (below_step (by repeat (first | (with_reducible first | exact HB.out | apply below_alloc | apply pw_below_drewN | apply below_drew1) | exact HB.out)) hb); clear HB; have HB := n0_; clear n0_; (try clear hb); (try clear hb2); (try clear hk); (try clear hi)) | (go_at_call 14; (with_reducible refine (cell_Of.calls a3 t165 t166 t167 _ ?side1 A29.out).mono ?_); (case side1 => exact TB.below hT (by repeat (first | (with_reducible first | exact HB.out | apply below_alloc | apply pw_below_drewN | apply below_drew1) | exact HB.out))); rintro e w67 ⟨rfl, hb⟩; have n0_ := Aside0.mk (below_step (by repeat (first | (with_reducible first | exact HB.out | apply below_alloc | apply pw_below_drewN | apply below_drew1) | exact HB.out)) hb); clear HB; have HB := n0_; clear n0_; (try clear hb); (try clear hb2); (try clear hk); (try clear hi)) | (go_at_call 12; (with_reducible refine (cell_Compare.calls kj19 t162 t163 t164 t165 t166 t167 t168 _ ?side1 A30.out).mono ?_); (case side1 => exact TB.below hT (by repeat (first | (with_reducible first | exact HB.out | apply below_alloc | apply pw_below_drewN | apply below_drew1) | exact HB.out))); rintro e w68 ⟨rfl, hb⟩; have n0_ := Aside0.mk (below_step (by repeat (first | (with_reducible first | exact HB.out | apply below_alloc | apply pw_below_drewN | apply below_drew1) | exact HB.out)) hb); clear HB; have HB := n0_; clear n0_; (try clear hb); (try clear hb2); (try clear hk); (try clear hi)) | (go_at_call 16; (with_reducible refine (num_Num_Text.calls kj19 a2 t169 _ ?side1 A32.out).mono ?_); (case side1 => exact TB.below hT (by repeat (first | (with_reducible first | exact HB.out | apply below_alloc | apply pw_below_drewN | apply below_drew1) | exact HB.out))); rintro e w69 ⟨rfl, hb⟩; have n0_ := Aside0.mk (below_step (by repeat (first | (with_reducible first | exact HB.out | apply below_alloc | apply pw_below_drewN | apply below_drew1) | exact HB.out)) hb); clear HB; have HB := n0_; clear n0_; (try clear hb); (try clear hb2); (try clear hk); (try clear hi)) | (go_at_call 15; (with_reducible refine (cell_Input.calls kj19 t169 t170 t171 t172 _ ?side1 A33.out).mono ?_); (case side1 => exact TB.below hT (by repeat (first | (with_reducible first | exact HB.out | apply below_alloc | apply pw_below_drewN | apply below_drew1) | exact HB.out))); rintro e w70 ⟨rfl, hb⟩; have n0_ := Aside0.mk (below_step (by repeat (first | (with_reducible first | exact HB.out | apply below_alloc | apply pw_below_drewN | apply below_drew1) | exact HB.out)) hb); clear HB; have HB := n0_; clear n0_; (try clear hb); (try clear hb2); (try clear hk); (try clear hi)) | (go_at_call 12; (with_reducible refine (cell_Compare.calls kj19 t170 t171 t172 t165 t166 t167 t173 _ ?side1 A34.out).mono ?_); (case side1 => exact TB.below hT (by repeat (first | (with_reducible first | exact HB.out | apply below_alloc | apply pw_below_drewN | apply below_drew1) | exact HB.out))); rintro e w71 ⟨rfl, hb⟩; have n0_ := Aside0.mk (below_step (by repeat (first | (with_reducible first | exact HB.out | apply below_alloc | apply pw_below_drewN | apply below_drew1) | exact HB.out)) hb); clear HB; have HB := n0_; clear n0_; (try clear hb); (try clear hb2); (try clear hk); (try clear hi)))
                go_ret
                exact ⟨by first | rfl | (simp [errW_none, errW_some] <;> rfl) | (simp [errW_none, errW_some] <;> first | rfl | exact isEmpty_bne _) | (simp [*, errW_none, errW_some] <;> rfl), by repeat (first | (with_reducible first | exact HB.out | apply below_alloc | apply pw_below_drewN | apply below_drew1) | exact HB.out)⟩
              ·rw [if_neg c31] at H
               have c31b0 : (t168 == x10_19) = false := beq_eq_false_iff_ne.mpr c31
               have c31b1 : (t168 != x10_19) = true := bne_iff_ne.mpr c31
               obtain rfl := Option.some.inj H
               go_wp2_with (first | ((with_reducible refine gate_callee (f := 11) rfl ?_); refine goesL_ (some 42) rfl rfl Tryd.func11 (by kernel_rfl) rfl #[] rfl (by (try simp only [List.map_toArray, List.map_cons, List.map_nil]); first | done | rfl | (simp only [List.length_drop, List.length_take]; rfl)) ?_; (with_reducible refine (scribelaw06_awake.calls kj19  true _ ?side1 A22.out).mono ?_); (case side1 => exact TB.below hT (by repeat (first | (with_reducible first | exact HB.out | apply below_alloc | apply pw_below_drewN | apply below_drew1) | exact HB.out))); rintro e w72 ⟨rfl, hb⟩; refine ⟨_, rfl, ?_⟩; have n0_ := Aside0.mk (below_step (by repeat (first | (with_reducible first | exact HB.out | apply below_alloc | apply pw_below_drewN | apply below_drew1) | exact HB.out)) hb); clear HB; have HB := n0_; clear n0_; (try clear hb); (try clear hb2); (try clear hk); (try clear hi)) | (go_at_call 13; (with_reducible refine (cell_Text.calls t151 t155 t156 t157 _ ?side1 A24.out).mono ?_); (case side1 => exact TB.below hT (by repeat (first | (with_reducible first | exact HB.out | apply below_alloc | apply pw_below_drewN | apply below_drew1) | exact HB.out))); rintro e w73 ⟨rfl, hb⟩; have n0_ := Aside0.mk (below_step (by repeat (first | (with_reducible first | exact HB.out | apply below_alloc | apply pw_below_drewN | apply below_drew1) | exact HB.out)) hb); clear HB; have HB := n0_; clear n0_; (try clear hb); (try clear hb2); (try clear hk); (try clear hi)) | (go_at_call 13; (with_reducible refine (cell_Text.calls t152 t158 t159 t160 _ ?side1 A25.out).mono ?_); (case side1 => exact TB.below hT (by repeat (first | (with_reducible first | exact HB.out | apply below_alloc | apply pw_below_drewN | apply below_drew1) | exact HB.out))); rintro e w74 ⟨rfl, hb⟩; have n0_ := Aside0.mk (below_step (by repeat (first | (with_reducible first | exact HB.out | apply below_alloc | apply pw_below_drewN | apply below_drew1) | exact HB.out)) hb); clear HB; have HB := n0_; clear n0_; (try clear hb); (try clear hb2); (try clear hk); (try clear hi)) | (go_at_call 12; (with_reducible refine (cell_Compare.calls kj19 t155 t156 t157 t158 t159 t160 t161 _ ?side1 A26.out).mono ?_); (case side1 => exact TB.below hT (by repeat (first | (with_reducible first | exact HB.out | apply below_alloc | apply pw_below_drewN | apply below_drew1) | exact HB.out))); rintro e w75 ⟨rfl, hb⟩; have n0_ := Aside0.mk (below_step (by repeat (first | (with_reducible first | exact HB.out | apply below_alloc | apply pw_below_drewN | apply below_drew1) | exact HB.out)) hb); clear HB; have HB := n0_; clear n0_; (try clear hb); (try clear hb2); (try clear hk); (try clear hi)) | (go_at_call 14; (with_reducible refine (cell_Of.calls a2 t162 t163 t164 _ ?side1 A28.out).mono ?_); (case side1 => exact TB.below hT (by repeat (first | (with_reducible first | exact HB.out | apply below_alloc | apply pw_below_drewN | apply below_drew1) | exact HB.out))); rintro e w76 ⟨rfl, hb⟩; have n0_ := Aside0.mk (below_step (by repeat (first | (with_reducible first | exact HB.out | apply below_alloc | apply pw_below_drewN | apply below_drew1) | exact HB.out)) hb); clear HB; have HB := n0_; clear n0_; (try clear hb); (try clear hb2); (try clear hk); (try clear hi)) | (go_at_call 14; (with_reducible refine (cell_Of.calls a3 t165 t166 t167 _ ?side1 A29.out).mono ?_); (case side1 => exact TB.below hT (by repeat (first | (with_reducible first | exact HB.out | apply below_alloc | apply pw_below_drewN | apply below_drew1) | exact HB.out))); rintro e w77 ⟨rfl, hb⟩; have n0_ := Aside0.mk (below_step (by repeat (first | (with_reducible first | exact HB.out | apply below_alloc | apply pw_below_drewN | apply below_drew1) | exact HB.out)) hb); clear HB; have HB := n0_; clear n0_; (try clear hb); (try clear hb2); (try clear hk); (try clear hi)) | (go_at_call 12; (with_reducible refine (cell_Compare.calls kj19 t162 t163 t164 t165 t166 t167 t168 _ ?side1 A30.out).mono ?_); (case side1 => exact TB.below hT (by repeat (first | (with_reducible first | exact HB.out | apply below_alloc | apply pw_below_drewN | apply below_drew1) | exact HB.out))); rintro e w78 ⟨rfl, hb⟩; have n0_ := Aside0.mk (below_step (by repeat (first | (with_reducible first | exact HB.out | apply below_alloc | apply pw_below_drewN | apply below_drew1) | exact HB.out)) hb); clear HB; have HB := n0_; clear n0_; (try clear hb); (try clear hb2); (try clear hk); (try clear hi)))
               go_ret
               exact ⟨by first | rfl | (simp [errW_none, errW_some] <;> rfl) | (simp [errW_none, errW_some] <;> first | rfl | exact isEmpty_bne _) | (simp [*, errW_none, errW_some] <;> rfl), by repeat (first | (with_reducible first | exact HB.out | apply below_alloc | apply pw_below_drewN | apply below_drew1) | exact HB.out)⟩
             ·rw [if_neg c27] at H
              have c27b0 : (t161 == x9_15) = false := beq_eq_false_iff_ne.mpr c27
              have c27b1 : (t161 != x9_15) = true := bne_iff_ne.mpr c27
              obtain rfl := Option.some.inj H
              go_wp2_with (first | ((with_reducible refine gate_callee (f := 11) rfl ?_); refine goesL_ (some 42) rfl rfl Tryd.func11 (by kernel_rfl) rfl #[] rfl (by (try simp only [List.map_toArray, List.map_cons, List.map_nil]); first | done | rfl | (simp only [List.length_drop, List.length_take]; rfl)) ?_; (with_reducible refine (scribelaw06_awake.calls kj19  true _ ?side1 A22.out).mono ?_); (case side1 => exact TB.below hT (by repeat (first | (with_reducible first | exact HB.out | apply below_alloc | apply pw_below_drewN | apply below_drew1) | exact HB.out))); rintro e w79 ⟨rfl, hb⟩; refine ⟨_, rfl, ?_⟩; have n0_ := Aside0.mk (below_step (by repeat (first | (with_reducible first | exact HB.out | apply below_alloc | apply pw_below_drewN | apply below_drew1) | exact HB.out)) hb); clear HB; have HB := n0_; clear n0_; (try clear hb); (try clear hb2); (try clear hk); (try clear hi)) | (go_at_call 13; (with_reducible refine (cell_Text.calls t151 t155 t156 t157 _ ?side1 A24.out).mono ?_); (case side1 => exact TB.below hT (by repeat (first | (with_reducible first | exact HB.out | apply below_alloc | apply pw_below_drewN | apply below_drew1) | exact HB.out))); rintro e w80 ⟨rfl, hb⟩; have n0_ := Aside0.mk (below_step (by repeat (first | (with_reducible first | exact HB.out | apply below_alloc | apply pw_below_drewN | apply below_drew1) | exact HB.out)) hb); clear HB; have HB := n0_; clear n0_; (try clear hb); (try clear hb2); (try clear hk); (try clear hi)) | (go_at_call 13; (with_reducible refine (cell_Text.calls t152 t158 t159 t160 _ ?side1 A25.out).mono ?_); (case side1 => exact TB.below hT (by repeat (first | (with_reducible first | exact HB.out | apply below_alloc | apply pw_below_drewN | apply below_drew1) | exact HB.out))); rintro e w81 ⟨rfl, hb⟩; have n0_ := Aside0.mk (below_step (by repeat (first | (with_reducible first | exact HB.out | apply below_alloc | apply pw_below_drewN | apply below_drew1) | exact HB.out)) hb); clear HB; have HB := n0_; clear n0_; (try clear hb); (try clear hb2); (try clear hk); (try clear hi)) | (go_at_call 12; (with_reducible refine (cell_Compare.calls kj19 t155 t156 t157 t158 t159 t160 t161 _ ?side1 A26.out).mono ?_); (case side1 => exact TB.below hT (by repeat (first | (with_reducible first | exact HB.out | apply below_alloc | apply pw_below_drewN | apply below_drew1) | exact HB.out))); rintro e w82 ⟨rfl, hb⟩; have n0_ := Aside0.mk (below_step (by repeat (first | (with_reducible first | exact HB.out | apply below_alloc | apply pw_below_drewN | apply below_drew1) | exact HB.out)) hb); clear HB; have HB := n0_; clear n0_; (try clear hb); (try clear hb2); (try clear hk); (try clear hi)))
              go_ret
              exact ⟨by first | rfl | (simp [errW_none, errW_some] <;> rfl) | (simp [errW_none, errW_some] <;> first | rfl | exact isEmpty_bne _) | (simp [*, errW_none, errW_some] <;> rfl), by repeat (first | (with_reducible first | exact HB.out | apply below_alloc | apply pw_below_drewN | apply below_drew1) | exact HB.out)⟩
            ·replace c23 := Bool.eq_false_iff.mpr c23
             subst c23
             have H1 : (some false) = some r := by rw [if_neg (show ¬ (false = true) by decide)] at H; exact H
             clear H
             have H := H1
             clear H1
             obtain rfl := Option.some.inj H
             go_wp2_with (first | ((with_reducible refine gate_callee (f := 11) rfl ?_); refine goesL_ (some 42) rfl rfl Tryd.func11 (by kernel_rfl) rfl #[] rfl (by (try simp only [List.map_toArray, List.map_cons, List.map_nil]); first | done | rfl | (simp only [List.length_drop, List.length_take]; rfl)) ?_; (with_reducible refine (scribelaw06_awake.calls kj19  false _ ?side1 A22.out).mono ?_); (case side1 => exact TB.below hT (by repeat (first | (with_reducible first | exact HB.out | apply below_alloc | apply pw_below_drewN | apply below_drew1) | exact HB.out))); rintro e w83 ⟨rfl, hb⟩; refine ⟨_, rfl, ?_⟩; have n0_ := Aside0.mk (below_step (by repeat (first | (with_reducible first | exact HB.out | apply below_alloc | apply pw_below_drewN | apply below_drew1) | exact HB.out)) hb); clear HB; have HB := n0_; clear n0_; (try clear hb); (try clear hb2); (try clear hk); (try clear hi)))
             go_ret
             exact ⟨by first | rfl | (simp [errW_none, errW_some] <;> rfl) | (simp [errW_none, errW_some] <;> first | rfl | exact isEmpty_bne _) | (simp [*, errW_none, errW_some] <;> rfl), by repeat (first | (with_reducible first | exact HB.out | apply below_alloc | apply pw_below_drewN | apply below_drew1) | exact HB.out)⟩

end Go.Proofs.YtmhhklenaadobaaDoor.Pr
