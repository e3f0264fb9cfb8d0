/- The machine's side, written by a patched print (wip/tools): each theorem says that a call of the Go function comes to what the Lean function beside it computes, where the tables are laid (TB). -/
import Derived.Test.YtmhhklenaadobaaDoorPr0
import Derived.Test.YtmhhklenaadobaaDoorPr18
import Derived.Test.YtmhhklenaadobaaDoorPr19
namespace Go.Proofs.YtmhhklenaadobaaDoor.Pr
open Go.RowKit Go.Proofs.YtmhhklenaadobaaDoorW.PrintWords Go.Proofs.YtmhhklenaadobaaDoorW.PrintLast Go.Proofs.YtmhhklenaadobaaDoorW.PrintMore
attribute [local go_sem] fld27_0 fld27_1 fld27_2 fld38_0 fld38_1 fld38_2 binOp_string_gtr2 binOp_string_leq2 binOp_string_geq2 max2_int min2_int max_two min_two max_three min_three max_four min_four   -- for this text's walks alone
set_option linter.unusedVariables false
set_option linter.unusedSimpArgs false

/-! ### scriberef05_Prefix: function 39 -/
mutual
def scriberef05_Prefix.j1 : Nat → ByteArray → Int → Option (Int × Int)
 | 0, _, _ => none
 | k + 1, x0, x4 => if x4 < (x0.size : Int) then (if 0 ≤ x4 then (scriberef05_Prefix.j2 k x0 x4 ((bt x0 x4) == 45)) else (none)) else (scriberef05_Prefix.j2 k x0 x4 false)
def scriberef05_Prefix.j2 : Nat → ByteArray → Int → Bool → Option (Int × Int)
 | 0, _, _, _ => none
 | k + 1, x0, x4, x5 => if x4 < (x0.size : Int) then (if 0 ≤ x4 then (if (bt x0 x4) = 45 then (scriberef05_Prefix.j3 k x0 x4 x5 true) else (scriberef05_Prefix.j3 k x0 x4 x5 ((bt x0 x4) == 43))) else (none)) else (scriberef05_Prefix.j3 k x0 x4 x5 false)
def scriberef05_Prefix.j3 : Nat → ByteArray → Int → Bool → Bool → Option (Int × Int)
 | 0, _, _, _, _ => none
 | k + 1, x0, x4, x5, x46 => if x46 = true then (scriberef05_Prefix.j4 k x0 (wrap64 (x4 + 1)) x5) else (scriberef05_Prefix.j4 k x0 x4 x5)
def scriberef05_Prefix.j4 : Nat → ByteArray → Int → Bool → Option (Int × Int)
 | 0, _, _, _ => none
 | k + 1, x0, x4, x5 => scriberef05_Prefix.l1 k x0 x4 x5 (⟨#[]⟩ : ByteArray) (⟨#[]⟩ : ByteArray) 0
def scriberef05_Prefix.l1 : Nat → ByteArray → Int → Bool → ByteArray → ByteArray → Int → Option (Int × Int)
 | 0, _, _, _, _, _, _ => none
 | k + 1, x0, x4, x5, x6, x7, x8 => if x4 < (x0.size : Int) then (if 0 ≤ x4 then (if (bt x0 x4) ≥ 48 then (if (bt x0 x4) ≤ 57 then (scriberef05_Prefix.j6 k x0 x4 x5 x6 x7 x8 true) else (if (bt x0 x4) = 46 then (scriberef05_Prefix.j6 k x0 x4 x5 x6 x7 x8 (x8 == 0)) else (scriberef05_Prefix.j6 k x0 x4 x5 x6 x7 x8 false))) else (if (bt x0 x4) = 46 then (scriberef05_Prefix.j6 k x0 x4 x5 x6 x7 x8 (x8 == 0)) else (scriberef05_Prefix.j6 k x0 x4 x5 x6 x7 x8 false))) else (none)) else (scriberef05_Prefix.j6 k x0 x4 x5 x6 x7 x8 false)
def scriberef05_Prefix.j6 : Nat → ByteArray → Int → Bool → ByteArray → ByteArray → Int → Bool → Option (Int × Int)
 | 0, _, _, _, _, _, _, _ => none
 | k + 1, x0, x4, x5, x6, x7, x8, x74 => if x74 = true then (if 0 ≤ x4 then (if x4 < (x0.size : Int) then (if (bt x0 x4) = 46 then (scriberef05_Prefix.l1 k x0 (wrap64 (x4 + 1)) x5 x6 x7 1) else (if x8 = 0 then (if x4 ≤ (wrap64 (x4 + 1)) then (if (wrap64 (x4 + 1)) ≤ (x0.size : Int) then (if x6.size + (x0.extract (x4 : Int).toNat ((wrap64 (x4 + 1)) : Int).toNat).size ≤ 9223372036854775807 then (scriberef05_Prefix.l1 k x0 (wrap64 (x4 + 1)) x5 (x6 ++ (x0.extract (x4 : Int).toNat ((wrap64 (x4 + 1)) : Int).toNat)) x7 x8) else (none)) else (none)) else (none)) else (if x4 ≤ (wrap64 (x4 + 1)) then (if (wrap64 (x4 + 1)) ≤ (x0.size : Int) then (if x7.size + (x0.extract (x4 : Int).toNat ((wrap64 (x4 + 1)) : Int).toNat).size ≤ 9223372036854775807 then (scriberef05_Prefix.l1 k x0 (wrap64 (x4 + 1)) x5 x6 (x7 ++ (x0.extract (x4 : Int).toNat ((wrap64 (x4 + 1)) : Int).toNat)) x8) else (none)) else (none)) else (none)))) else (none)) else (none)) else (if (wrap64 ((x6.size : Int) + (x7.size : Int))) = 0 then (some (0, 0)) else (if x7.size + 6 ≤ 9223372036854775807 then (if 0 ≤ 6 then (if 6 ≤ ((x7 ++ (⟨#[48, 48, 48, 48, 48, 48]⟩ : ByteArray)).size : Int) then (if x6.size + ((x7 ++ (⟨#[48, 48, 48, 48, 48, 48]⟩ : ByteArray)).extract 0 6).size ≤ 9223372036854775807 then ((scriberef05_strip.f k (x6 ++ ((x7 ++ (⟨#[48, 48, 48, 48, 48, 48]⟩ : ByteArray)).extract 0 6))).bind fun t252 => ((scriberef05_Signed.f k x5 t252).bind fun t253 => (some (t253, x4)))) else (none)) else (none)) else (none)) else (none)))
def scriberef05_Prefix.l0 : Nat → ByteArray → Int → Option (Int × Int)
 | 0, _, _ => none
 | k + 1, x0, x4 => if x4 < (x0.size : Int) then (if 0 ≤ x4 then ((scriberef05_blank.f (bt x0 x4)).bind fun t251 => (if t251 = true then (scriberef05_Prefix.l0 k x0 (wrap64 (x4 + 1))) else (scriberef05_Prefix.j1 k x0 x4))) else (none)) else (scriberef05_Prefix.j1 k x0 x4)
end
def scriberef05_Prefix.f (k : Nat) (a0 : ByteArray) : Option (Int × Int) := scriberef05_Prefix.l0 k a0 0
theorem scriberef05_Prefix.mono_l : ∀ k, (∀ y0 y1, LeO (scriberef05_Prefix.j1 k y0 y1) (scriberef05_Prefix.j1 (k + 1) y0 y1)) ∧ (∀ y0 y1 y2, LeO (scriberef05_Prefix.j2 k y0 y1 y2) (scriberef05_Prefix.j2 (k + 1) y0 y1 y2)) ∧ (∀ y0 y1 y2 y3, LeO (scriberef05_Prefix.j3 k y0 y1 y2 y3) (scriberef05_Prefix.j3 (k + 1) y0 y1 y2 y3)) ∧ (∀ y0 y1 y2, LeO (scriberef05_Prefix.j4 k y0 y1 y2) (scriberef05_Prefix.j4 (k + 1) y0 y1 y2)) ∧ (∀ y0 y1 y2 y3 y4 y5, LeO (scriberef05_Prefix.l1 k y0 y1 y2 y3 y4 y5) (scriberef05_Prefix.l1 (k + 1) y0 y1 y2 y3 y4 y5)) ∧ (∀ y0 y1 y2 y3 y4 y5 y6, LeO (scriberef05_Prefix.j6 k y0 y1 y2 y3 y4 y5 y6) (scriberef05_Prefix.j6 (k + 1) y0 y1 y2 y3 y4 y5 y6)) ∧ (∀ y0 y1, LeO (scriberef05_Prefix.l0 k y0 y1) (scriberef05_Prefix.l0 (k + 1) y0 y1))
 | 0 => ⟨fun _ _ r h => by simp [scriberef05_Prefix.j1] at h, fun _ _ _ r h => by simp [scriberef05_Prefix.j2] at h, fun _ _ _ _ r h => by simp [scriberef05_Prefix.j3] at h, fun _ _ _ r h => by simp [scriberef05_Prefix.j4] at h, fun _ _ _ _ _ _ r h => by simp [scriberef05_Prefix.l1] at h, fun _ _ _ _ _ _ _ r h => by simp [scriberef05_Prefix.j6] at h, fun _ _ r h => by simp [scriberef05_Prefix.l0] at h⟩
 | k + 1 => by
  obtain ⟨ih0, ih1, ih2, ih3, ih4, ih5, ih6⟩ := scriberef05_Prefix.mono_l k
  refine ⟨?_, ?_, ?_, ?_, ?_, ?_, ?_⟩
  ·intro y0 y1
   unfold scriberef05_Prefix.j1
   repeat' first
   | (with_reducible exact ih0 _ _)
   | (with_reducible exact ih1 _ _ _)
   | (with_reducible exact ih2 _ _ _ _)
   | (with_reducible exact ih3 _ _ _)
   | (with_reducible exact ih4 _ _ _ _ _ _)
   | (with_reducible exact ih5 _ _ _ _ _ _ _)
   | (with_reducible exact ih6 _ _)
   | (with_reducible exact scriberef05_Signed.mono _ _ _)
   | (with_reducible exact scriberef05_strip.mono _ _)
   | (with_reducible exact LeO.refl _)
   | (with_reducible exact LeO.none _)
   | (with_reducible refine LeO.ite ?_ ?_)
   | (with_reducible refine LeO.bind ?_ (fun _ => ?_))
   | exact ih0 _ _
   | exact ih1 _ _ _
   | exact ih2 _ _ _ _
   | exact ih3 _ _ _
   | exact ih4 _ _ _ _ _ _
   | exact ih5 _ _ _ _ _ _ _
   | exact ih6 _ _
   | exact scriberef05_Signed.mono _ _ _
   | exact scriberef05_strip.mono _ _
   | exact LeO.none _
   | refine LeO.ite ?_ ?_
   | refine LeO.bind ?_ (fun _ => ?_)
  ·intro y0 y1 y2
   unfold scriberef05_Prefix.j2
   repeat' first
   | (with_reducible exact ih0 _ _)
   | (with_reducible exact ih1 _ _ _)
   | (with_reducible exact ih2 _ _ _ _)
   | (with_reducible exact ih3 _ _ _)
   | (with_reducible exact ih4 _ _ _ _ _ _)
   | (with_reducible exact ih5 _ _ _ _ _ _ _)
   | (with_reducible exact ih6 _ _)
   | (with_reducible exact scriberef05_Signed.mono _ _ _)
   | (with_reducible exact scriberef05_strip.mono _ _)
   | (with_reducible exact LeO.refl _)
   | (with_reducible exact LeO.none _)
   | (with_reducible refine LeO.ite ?_ ?_)
   | (with_reducible refine LeO.bind ?_ (fun _ => ?_))
   | exact ih0 _ _
   | exact ih1 _ _ _
   | exact ih2 _ _ _ _
   | exact ih3 _ _ _
   | exact ih4 _ _ _ _ _ _
   | exact ih5 _ _ _ _ _ _ _
   | exact ih6 _ _
   | exact scriberef05_Signed.mono _ _ _
   | exact scriberef05_strip.mono _ _
   | exact LeO.none _
   | refine LeO.ite ?_ ?_
   | refine LeO.bind ?_ (fun _ => ?_)
  ·intro y0 y1 y2 y3
   unfold scriberef05_Prefix.j3
   repeat' first
   | (with_reducible exact ih0 _ _)
   | (with_reducible exact ih1 _ _ _)
   | (with_reducible exact ih2 _ _ _ _)
   | (with_reducible exact ih3 _ _ _)
   | (with_reducible exact ih4 _ _ _ _ _ _)
   | (with_reducible exact ih5 _ _ _ _ _ _ _)
   | (with_reducible exact ih6 _ _)
   | (with_reducible exact scriberef05_Signed.mono _ _ _)
   | (with_reducible exact scriberef05_strip.mono _ _)
   | (with_reducible exact LeO.refl _)
   | (with_reducible exact LeO.none _)
   | (with_reducible refine LeO.ite ?_ ?_)
   | (with_reducible refine LeO.bind ?_ (fun _ => ?_))
   | exact ih0 _ _
   | exact ih1 _ _ _
   | exact ih2 _ _ _ _
   | exact ih3 _ _ _
   | exact ih4 _ _ _ _ _ _
   | exact ih5 _ _ _ _ _ _ _
   | exact ih6 _ _
   | exact scriberef05_Signed.mono _ _ _
   | exact scriberef05_strip.mono _ _
   | exact LeO.none _
   | refine LeO.ite ?_ ?_
   | refine LeO.bind ?_ (fun _ => ?_)
  ·intro y0 y1 y2
   unfold scriberef05_Prefix.j4
   repeat' first
   | (with_reducible exact ih0 _ _)
   | (with_reducible exact ih1 _ _ _)
   | (with_reducible exact ih2 _ _ _ _)
   | (with_reducible exact ih3 _ _ _)
   | (with_reducible exact ih4 _ _ _ _ _ _)
   | (with_reducible exact ih5 _ _ _ _ _ _ _)
   | (with_reducible exact ih6 _ _)
   | (with_reducible exact scriberef05_Signed.mono _ _ _)
   | (with_reducible exact scriberef05_strip.mono _ _)
   | (with_reducible exact LeO.refl _)
   | (with_reducible exact LeO.none _)
   | (with_reducible refine LeO.ite ?_ ?_)
   | (with_reducible refine LeO.bind ?_ (fun _ => ?_))
   | exact ih0 _ _
   | exact ih1 _ _ _
   | exact ih2 _ _ _ _
   | exact ih3 _ _ _
   | exact ih4 _ _ _ _ _ _
   | exact ih5 _ _ _ _ _ _ _
   | exact ih6 _ _
   | exact scriberef05_Signed.mono _ _ _
   | exact scriberef05_strip.mono _ _
   | exact LeO.none _
   | refine LeO.ite ?_ ?_
   | refine LeO.bind ?_ (fun _ => ?_)
  ·intro y0 y1 y2 y3 y4 y5
   unfold scriberef05_Prefix.l1
   repeat' first
   | (with_reducible exact ih0 _ _)
   | (with_reducible exact ih1 _ _ _)
   | (with_reducible exact ih2 _ _ _ _)
   | (with_reducible exact ih3 _ _ _)
   | (with_reducible exact ih4 _ _ _ _ _ _)
   | (with_reducible exact ih5 _ _ _ _ _ _ _)
   | (with_reducible exact ih6 _ _)
   | (with_reducible exact scriberef05_Signed.mono _ _ _)
   | (with_reducible exact scriberef05_strip.mono _ _)
   | (with_reducible exact LeO.refl _)
   | (with_reducible exact LeO.none _)
   | (with_reducible refine LeO.ite ?_ ?_)
   | (with_reducible refine LeO.bind ?_ (fun _ => ?_))
   | exact ih0 _ _
   | exact ih1 _ _ _
   | exact ih2 _ _ _ _
   | exact ih3 _ _ _
   | exact ih4 _ _ _ _ _ _
   | exact ih5 _ _ _ _ _ _ _
   | exact ih6 _ _
   | exact scriberef05_Signed.mono _ _ _
   | exact scriberef05_strip.mono _ _
   | exact LeO.none _
   | refine LeO.ite ?_ ?_
   | refine LeO.bind ?_ (fun _ => ?_)
  ·intro y0 y1 y2 y3 y4 y5 y6
   unfold scriberef05_Prefix.j6
   repeat' first
   | (with_reducible exact ih0 _ _)
   | (with_reducible exact ih1 _ _ _)
   | (with_reducible exact ih2 _ _ _ _)
   | (with_reducible exact ih3 _ _ _)
   | (with_reducible exact ih4 _ _ _ _ _ _)
   | (with_reducible exact ih5 _ _ _ _ _ _ _)
   | (with_reducible exact ih6 _ _)
   | (with_reducible exact scriberef05_Signed.mono _ _ _)
   | (with_reducible exact scriberef05_strip.mono _ _)
   | (with_reducible exact LeO.refl _)
   | (with_reducible exact LeO.none _)
   | (with_reducible refine LeO.ite ?_ ?_)
   | (with_reducible refine LeO.bind ?_ (fun _ => ?_))
   | exact ih0 _ _
   | exact ih1 _ _ _
   | exact ih2 _ _ _ _
   | exact ih3 _ _ _
   | exact ih4 _ _ _ _ _ _
   | exact ih5 _ _ _ _ _ _ _
   | exact ih6 _ _
   | exact scriberef05_Signed.mono _ _ _
   | exact scriberef05_strip.mono _ _
   | exact LeO.none _
   | refine LeO.ite ?_ ?_
   | refine LeO.bind ?_ (fun _ => ?_)
  ·intro y0 y1
   unfold scriberef05_Prefix.l0
   repeat' first
   | (with_reducible exact ih0 _ _)
   | (with_reducible exact ih1 _ _ _)
   | (with_reducible exact ih2 _ _ _ _)
   | (with_reducible exact ih3 _ _ _)
   | (with_reducible exact ih4 _ _ _ _ _ _)
   | (with_reducible exact ih5 _ _ _ _ _ _ _)
   | (with_reducible exact ih6 _ _)
   | (with_reducible exact scriberef05_Signed.mono _ _ _)
   | (with_reducible exact scriberef05_strip.mono _ _)
   | (with_reducible exact LeO.refl _)
   | (with_reducible exact LeO.none _)
   | (with_reducible refine LeO.ite ?_ ?_)
   | (with_reducible refine LeO.bind ?_ (fun _ => ?_))
   | exact ih0 _ _
   | exact ih1 _ _ _
   | exact ih2 _ _ _ _
   | exact ih3 _ _ _
   | exact ih4 _ _ _ _ _ _
   | exact ih5 _ _ _ _ _ _ _
   | exact ih6 _ _
   | exact scriberef05_Signed.mono _ _ _
   | exact scriberef05_strip.mono _ _
   | exact LeO.none _
   | refine LeO.ite ?_ ?_
   | refine LeO.bind ?_ (fun _ => ?_)
theorem scriberef05_Prefix.mono : ∀ a0 k, LeO (scriberef05_Prefix.f k a0) (scriberef05_Prefix.f (k + 1) a0) := by
 intro a0 k
 obtain ⟨ih0, ih1, ih2, ih3, ih4, ih5, ih6⟩ := scriberef05_Prefix.mono_l k
 unfold scriberef05_Prefix.f
 repeat' first
   | (with_reducible exact ih0 _ _)
   | (with_reducible exact ih1 _ _ _)
   | (with_reducible exact ih2 _ _ _ _)
   | (with_reducible exact ih3 _ _ _)
   | (with_reducible exact ih4 _ _ _ _ _ _)
   | (with_reducible exact ih5 _ _ _ _ _ _ _)
   | (with_reducible exact ih6 _ _)
   | (with_reducible exact scriberef05_Signed.mono _ _ _)
   | (with_reducible exact scriberef05_strip.mono _ _)
   | (with_reducible exact LeO.refl _)
   | (with_reducible exact LeO.none _)
   | (with_reducible refine LeO.ite ?_ ?_)
   | (with_reducible refine LeO.bind ?_ (fun _ => ?_))
   | exact ih0 _ _
   | exact ih1 _ _ _
   | exact ih2 _ _ _ _
   | exact ih3 _ _ _
   | exact ih4 _ _ _ _ _ _
   | exact ih5 _ _ _ _ _ _ _
   | exact ih6 _ _
   | exact scriberef05_Signed.mono _ _ _
   | exact scriberef05_strip.mono _ _
   | exact LeO.none _
   | refine LeO.ite ?_ ?_
   | refine LeO.bind ?_ (fun _ => ?_)
set_option maxHeartbeats 8000000 in
set_option maxRecDepth 100000 in
theorem scriberef05_Prefix.calls (k : Nat) (a0 : ByteArray) (r1 : Int) (r2 : Int) (w : World) (hT : TB w) (h : scriberef05_Prefix.f k a0 = some (r1, r2)) :
  Calls Tryd.prog 39 #[.string a0] w fun e w' => e = .returned (.tuple #[.int .i64 r1, .int .i64 r2]) ∧ Drawn0 w w' := by
 have H : (scriberef05_Prefix.l0 k a0 0) = some (r1, r2) := h
 clear h
 have HC2 := Aside0.mk H
 clear H
 go_enter Tryd.func39, Tryd.ntmps39
 go_upto_block 0 with (fail)
 go_cut [4] (fun v4 wc => ∃ (kq : Nat) (x4_1 : Int), v4 = .int .i64 x4_1 ∧ Aside0 (scriberef05_Prefix.j1 kq a0 x4_1 = some (r1, r2)) ∧ Aside0 (kq ≤ k) ∧ Drawn0 w wc)
 case first =>
  have H := HC2.out
  clear HC2
  have H' := Aside0.mk H
  clear H
  go_wp2
  go_loopg [4] k (fun kq v4 w' => ∃ (x4_1 : Int), v4 = .int .i64 x4_1 ∧ Aside0 (scriberef05_Prefix.l0 kq a0 x4_1 = some (r1, r2)) ∧ Aside0 (kq ≤ k) ∧ Drawn0 w w')
  case atStart => exact ⟨(0), (by first | rfl | (simp; done) | (simp [*]; done) | (simp; unfold wrap64; omega)), H', ⟨Nat.le_refl _⟩, by repeat (first | exact Drawn0.refl _ | apply Drawn0.step)⟩
  case round =>
   clear H'
   try clear p2
   obtain ⟨x4_1, rfl, HA, HK1, ⟨m1, rfl⟩⟩ := hrel
   cases gk with
   | zero => exact absurd HA.out (by simp [scriberef05_Prefix.l0])
   | succ k1 =>
    have H := HA.out
    clear HA
    simp only [scriberef05_Prefix.l0] at H
    by_cases c3 : x4_1 < (a0.size : Int)
    ·rw [if_pos c3] at H
     have c3b0 : decide (x4_1 < (a0.size : Int)) = true := decide_eq_true c3
     clear c3
     (first | rw [c3b0] | (simp only [i64_w, i32_w]; rw [c3b0]) | skip)
     by_cases c4 : 0 ≤ x4_1
     ·rw [if_pos c4] at H
      have c4b0 : decide (0 ≤ x4_1) = true := decide_eq_true c4
      clear c4
      replace H := Option.bind_eq_some_iff.mp H
      obtain ⟨t251, A60, H⟩ := H
      replace H : (if t251 = true then (scriberef05_Prefix.l0 k1 a0 (wrap64 (x4_1 + 1))) else (scriberef05_Prefix.j1 k1 a0 x4_1)) = some (r1, r2) := H
      have A6 := Aside0.mk A60
      clear A60
      by_cases c7 : t251 = true
      ·subst c7
       have H1 : (scriberef05_Prefix.l0 k1 a0 (wrap64 (x4_1 + 1))) = some (r1, r2) := by rw [if_pos rfl] at H; exact H
       clear H
       have H := H1
       clear H1
       have H' := Aside0.mk H
       clear H
       have p5 : 0 ≤ (x4_1 : Int) := of_decide_eq_true (by first | (with_reducible assumption) | assumption)
       have q5 : x4_1 < (a0.size : Int) := of_decide_eq_true (by first | (with_reducible assumption) | assumption)
       have hx5 := bt_at a0 x4_1
       replace p5 := eq_true p5
       replace q5 := eq_true q5
       go_wp2_with (first | (go_at_call 52; (with_reducible refine (scriberef05_blank.calls (bt a0 x4_1) true _ ?side1 A6.out).mono ?_); (case side1 => repeat (first | exact hT | apply TB.drewN | apply TB.drew)); rintro e w' ⟨rfl, ⟨nd, rfl⟩⟩))
       go_roundg k1
       case measure => have := HK1.out; omega
       case rel => exact ⟨(wrap64 (x4_1 + 1)), (by first | rfl | (simp; done) | (simp [*]; done) | (simp; unfold wrap64; omega)), H', ⟨by have := HK1.out; omega⟩, by repeat (first | exact Drawn0.refl _ | apply Drawn0.step)⟩
      ·replace c7 := Bool.eq_false_iff.mpr c7
       subst c7
       have H1 : (scriberef05_Prefix.j1 k1 a0 x4_1) = some (r1, r2) := by rw [if_neg (show ¬ (false = true) by decide)] at H; exact H
       clear H
       have H := H1
       clear H1
       have H' := Aside0.mk H
       clear H
       have p5 : 0 ≤ (x4_1 : Int) := of_decide_eq_true (by first | (with_reducible assumption) | assumption)
       have q5 : x4_1 < (a0.size : Int) := of_decide_eq_true (by first | (with_reducible assumption) | assumption)
       have hx5 := bt_at a0 x4_1
       replace p5 := eq_true p5
       replace q5 := eq_true q5
       go_wp2_with (first | (go_at_call 52; (with_reducible refine (scriberef05_blank.calls (bt a0 x4_1) false _ ?side1 A6.out).mono ?_); (case side1 => repeat (first | exact hT | apply TB.drewN | apply TB.drew)); rintro e w' ⟨rfl, ⟨nd, rfl⟩⟩))
       go_meet
       case rel => exact ⟨_, (x4_1), (by first | rfl | (simp; done) | (simp [*]; done) | (simp; unfold wrap64; omega)), H', ⟨by have := HK1.out; first | omega | exact Nat.le_refl _⟩, by repeat (first | exact Drawn0.refl _ | apply Drawn0.step)⟩
     ·rw [if_neg c4] at H
      exact absurd H (by simp)
    ·rw [if_neg c3] at H
     have c3b0 : decide (x4_1 < (a0.size : Int)) = false := decide_eq_false c3
     clear c3
     (first | rw [c3b0] | (simp only [i64_w, i32_w]; rw [c3b0]) | skip)
     have H' := Aside0.mk H
     clear H
     go_wp2
     go_meet
     case rel => exact ⟨_, (x4_1), (by first | rfl | (simp; done) | (simp [*]; done) | (simp; unfold wrap64; omega)), H', ⟨by have := HK1.out; first | omega | exact Nat.le_refl _⟩, by repeat (first | exact Drawn0.refl _ | apply Drawn0.step)⟩
 case rest =>
  clear HC2
  try clear p2
  try clear c3
  try clear c3b0
  try clear c4
  try clear c4b0
  try clear p5
  try clear q5
  try clear hx5
  try clear p6
  try clear c7
  try clear p2
  try clear p5
  try clear q5
  obtain ⟨kq, x4_1, rfl, HA, HJ1, ⟨mc1, rfl⟩⟩ := hcut
  cases kq with
  | zero => exact absurd HA.out (by simp [scriberef05_Prefix.j1])
  | succ kj1 =>
   have H := HA.out
   clear HA
   simp only [scriberef05_Prefix.j1] at H
   have HC8 := Aside0.mk H
   clear H
   go_upto_region 4 with (fail)
   go_cut [5] (fun v5 wc => ∃ (kq : Nat) (x5_7 : Bool), v5 = .bool x5_7 ∧ Aside0 (scriberef05_Prefix.j2 kq a0 x4_1 x5_7 = some (r1, r2)) ∧ Aside0 (kq ≤ kj1) ∧ Drawn0 w wc)
   case first =>
    have H := HC8.out
    clear HC8
    by_cases c9 : x4_1 < (a0.size : Int)
    ·rw [if_pos c9] at H
     have c9b0 : decide (x4_1 < (a0.size : Int)) = true := decide_eq_true c9
     clear c9
     (first | rw [c9b0] | (simp only [i64_w, i32_w]; rw [c9b0]) | skip)
     by_cases c10 : 0 ≤ x4_1
     ·rw [if_pos c10] at H
      have c10b0 : decide (0 ≤ x4_1) = true := decide_eq_true c10
      clear c10
      have H' := Aside0.mk H
      clear H
      have p11 : 0 ≤ (x4_1 : Int) := of_decide_eq_true (by first | (with_reducible assumption) | assumption)
      have q11 : x4_1 < (a0.size : Int) := of_decide_eq_true (by first | (with_reducible assumption) | assumption)
      have hx11 := bt_at a0 x4_1
      replace p11 := eq_true p11
      replace q11 := eq_true q11
      go_wp2
      go_meet
      case rel => exact ⟨_, (((bt a0 x4_1) == 45)), (by first | rfl | (simp; done) | (simp [*]; done) | (simp; unfold wrap64; omega)), H', ⟨by have := HJ1.out; first | omega | exact Nat.le_refl _⟩, by repeat (first | exact Drawn0.refl _ | apply Drawn0.step)⟩
     ·rw [if_neg c10] at H
      exact absurd H (by simp)
    ·rw [if_neg c9] at H
     have c9b0 : decide (x4_1 < (a0.size : Int)) = false := decide_eq_false c9
     clear c9
     (first | rw [c9b0] | (simp only [i64_w, i32_w]; rw [c9b0]) | skip)
     have H' := Aside0.mk H
     clear H
     go_wp2
     go_meet
     case rel => exact ⟨_, (false), (by first | rfl | (simp; done) | (simp [*]; done) | (simp; unfold wrap64; omega)), H', ⟨by have := HJ1.out; first | omega | exact Nat.le_refl _⟩, by repeat (first | exact Drawn0.refl _ | apply Drawn0.step)⟩
   case rest =>
    clear HC8
    try clear c1
    try clear p1
    try clear q1
    try clear hx1
    try clear p2
    try clear c3
    try clear c3b0
    try clear c4
    try clear c4b0
    try clear p5
    try clear q5
    try clear hx5
    try clear p6
    try clear c7
    try clear c9
    try clear c9b0
    try clear c10
    try clear c10b0
    try clear p11
    try clear q11
    try clear hx11
    try clear p11
    try clear p2
    try clear p5
    try clear p6
    try clear q11
    try clear q5
    obtain ⟨kq, x5_7, rfl, HA, HJ7, ⟨mc7, rfl⟩⟩ := hcut
    cases kq with
    | zero => exact absurd HA.out (by simp [scriberef05_Prefix.j2])
    | succ kj7 =>
     have H := HA.out
     clear HA
     simp only [scriberef05_Prefix.j2] at H
     have HC12 := Aside0.mk H
     clear H
     go_upto_region 5 with (fail)
     go_cut [46] (fun v46 wc => ∃ (kq : Nat) (x46_11 : Bool), v46 = .bool x46_11 ∧ Aside0 (scriberef05_Prefix.j3 kq a0 x4_1 x5_7 x46_11 = some (r1, r2)) ∧ Aside0 (kq ≤ kj7) ∧ Drawn0 w wc)
     case first =>
      have H := HC12.out
      clear HC12
      by_cases c13 : x4_1 < (a0.size : Int)
      ·rw [if_pos c13] at H
       have c13b0 : decide (x4_1 < (a0.size : Int)) = true := decide_eq_true c13
       clear c13
       (first | rw [c13b0] | (simp only [i64_w, i32_w]; rw [c13b0]) | skip)
       by_cases c14 : 0 ≤ x4_1
       ·rw [if_pos c14] at H
        have c14b0 : decide (0 ≤ x4_1) = true := decide_eq_true c14
        clear c14
        by_cases c16 : (bt a0 x4_1) = 45
        ·rw [if_pos c16] at H
         have c16b0 : ((bt a0 x4_1) == 45) = true := beq_iff_eq.mpr c16
         have c16b1 : ((bt a0 x4_1) != 45) = false := bne_eq_false_iff_eq.mpr c16
         clear c16
         have H' := Aside0.mk H
         clear H
         have p15 : 0 ≤ (x4_1 : Int) := of_decide_eq_true (by first | (with_reducible assumption) | assumption)
         have q15 : x4_1 < (a0.size : Int) := of_decide_eq_true (by first | (with_reducible assumption) | assumption)
         have hx15 := bt_at a0 x4_1
         replace p15 := eq_true p15
         replace q15 := eq_true q15
         go_wp2
         go_meet
         case rel => exact ⟨_, (true), (by first | rfl | (simp; done) | (simp [*]; done) | (simp; unfold wrap64; omega)), H', ⟨by have := HJ1.out; have := HJ7.out; first | omega | exact Nat.le_refl _⟩, by repeat (first | exact Drawn0.refl _ | apply Drawn0.step)⟩
        ·rw [if_neg c16] at H
         have c16b0 : ((bt a0 x4_1) == 45) = false := beq_eq_false_iff_ne.mpr c16
         have c16b1 : ((bt a0 x4_1) != 45) = true := bne_iff_ne.mpr c16
         have H' := Aside0.mk H
         clear H
         have p15 : 0 ≤ (x4_1 : Int) := of_decide_eq_true (by first | (with_reducible assumption) | assumption)
         have q15 : x4_1 < (a0.size : Int) := of_decide_eq_true (by first | (with_reducible assumption) | assumption)
         have hx15 := bt_at a0 x4_1
         replace p15 := eq_true p15
         replace q15 := eq_true q15
         have p17 : 0 ≤ (x4_1 : Int) := of_decide_eq_true (by first | (with_reducible assumption) | assumption)
         have q17 : x4_1 < (a0.size : Int) := of_decide_eq_true (by first | (with_reducible assumption) | assumption)
         have hx17 := bt_at a0 x4_1
         replace p17 := eq_true p17
         replace q17 := eq_true q17
         go_wp2
         go_meet
         case rel => exact ⟨_, (((bt a0 x4_1) == 43)), (by first | rfl | (simp; done) | (simp [*]; done) | (simp; unfold wrap64; omega)), H', ⟨by have := HJ1.out; have := HJ7.out; first | omega | exact Nat.le_refl _⟩, by repeat (first | exact Drawn0.refl _ | apply Drawn0.step)⟩
       ·rw [if_neg c14] at H
        exact absurd H (by simp)
      ·rw [if_neg c13] at H
       have c13b0 : decide (x4_1 < (a0.size : Int)) = false := decide_eq_false c13
       clear c13
       (first | rw [c13b0] | (simp only [i64_w, i32_w]; rw [c13b0]) | skip)
       have H' := Aside0.mk H
       clear H
       go_wp2
       go_meet
       case rel => exact ⟨_, (false), (by first | rfl | (simp; done) | (simp [*]; done) | (simp; unfold wrap64; omega)), H', ⟨by have := HJ1.out; have := HJ7.out; first | omega | exact Nat.le_refl _⟩, by repeat (first | exact Drawn0.refl _ | apply Drawn0.step)⟩
     case rest =>
      clear HC12
      try clear c1
      try clear p1
      try clear q1
      try clear hx1
      try clear p2
      try clear c3
      try clear c3b0
      try clear c4
      try clear c4b0
      try clear p5
      try clear q5
      try clear hx5
      try clear p6
      try clear c7
      try clear c9
      try clear c9b0
      try clear c10
      try clear c10b0
      try clear p11
      try clear q11
      try clear hx11
      try clear c13
      try clear c13b0
      try clear c14
      try clear c14b0
      try clear p15
      try clear q15
      try clear hx15
      try clear c16
      try clear c16b0
      try clear c16b1
      try clear p17
      try clear q17
      try clear hx17
      try clear p1
      try clear p11
      try clear p15
      try clear p17
      try clear p2
      try clear p5
      try clear p6
      try clear q1
      try clear q11
      try clear q15
      try clear q17
      try clear q5
      obtain ⟨kq, x46_11, rfl, HA, HJ11, ⟨mc11, rfl⟩⟩ := hcut
      cases kq with
      | zero => exact absurd HA.out (by simp [scriberef05_Prefix.j3])
      | succ kj11 =>
       have H := HA.out
       clear HA
       simp only [scriberef05_Prefix.j3] at H
       have HC18 := Aside0.mk H
       clear H
       go_upto_if 46 with (fail)
       go_cut [4] (fun v4 wc => ∃ (kq : Nat) (x4_17 : Int), v4 = .int .i64 x4_17 ∧ Aside0 (scriberef05_Prefix.j4 kq a0 x4_17 x5_7 = some (r1, r2)) ∧ Aside0 (kq ≤ kj11) ∧ Drawn0 w wc)
       case first =>
        have H := HC18.out
        clear HC18
        by_cases c19 : x46_11 = true
        ·subst c19
         have H1 : (scriberef05_Prefix.j4 kj11 a0 (wrap64 (x4_1 + 1)) x5_7) = some (r1, r2) := by rw [if_pos rfl] at H; exact H
         clear H
         have H := H1
         clear H1
         have H' := Aside0.mk H
         clear H
         go_wp2
         go_meet
         case rel => exact ⟨_, (wrap64 (x4_1 + 1)), (by first | rfl | (simp; done) | (simp [*]; done) | (simp; unfold wrap64; omega)), H', ⟨by have := HJ1.out; have := HJ7.out; have := HJ11.out; first | omega | exact Nat.le_refl _⟩, by repeat (first | exact Drawn0.refl _ | apply Drawn0.step)⟩
        ·replace c19 := Bool.eq_false_iff.mpr c19
         subst c19
         have H1 : (scriberef05_Prefix.j4 kj11 a0 x4_1 x5_7) = some (r1, r2) := by rw [if_neg (show ¬ (false = true) by decide)] at H; exact H
         clear H
         have H := H1
         clear H1
         have H' := Aside0.mk H
         clear H
         go_wp2
         go_meet
         case rel => exact ⟨_, (x4_1), (by first | rfl | (simp; done) | (simp [*]; done) | (simp; unfold wrap64; omega)), H', ⟨by have := HJ1.out; have := HJ7.out; have := HJ11.out; first | omega | exact Nat.le_refl _⟩, by repeat (first | exact Drawn0.refl _ | apply Drawn0.step)⟩
       case rest =>
        clear HC18
        try clear c1
        try clear p1
        try clear q1
        try clear hx1
        try clear p2
        try clear c3
        try clear c3b0
        try clear c4
        try clear c4b0
        try clear p5
        try clear q5
        try clear hx5
        try clear p6
        try clear c7
        try clear c9
        try clear c9b0
        try clear c10
        try clear c10b0
        try clear c11
        try clear p11
        try clear q11
        try clear hx11
        try clear c13
        try clear c13b0
        try clear c14
        try clear c14b0
        try clear p15
        try clear q15
        try clear hx15
        try clear c16
        try clear c16b0
        try clear c16b1
        try clear p17
        try clear q17
        try clear hx17
        try clear c19
        try clear p1
        try clear p11
        try clear p15
        try clear p17
        try clear p2
        try clear p5
        try clear p6
        try clear q1
        try clear q11
        try clear q15
        try clear q17
        try clear q5
        obtain ⟨kq, x4_17, rfl, HA, HJ17, ⟨mc17, rfl⟩⟩ := hcut
        cases kq with
        | zero => exact absurd HA.out (by simp [scriberef05_Prefix.j4])
        | succ kj17 =>
         have H := HA.out
         clear HA
         simp only [scriberef05_Prefix.j4] at H
         have H' := Aside0.mk H
         clear H
         go_wp2
         go_loopg [4, 6, 7, 8] kj17 (fun kq v4 v6 v7 v8 w' => ∃ (x4_5 : Int) (x6_5 : ByteArray) (x7_5 : ByteArray) (x8_5 : Int), v4 = .int .i64 x4_5 ∧ v6 = .string x6_5 ∧ v7 = .string x7_5 ∧ v8 = .int .i64 x8_5 ∧ Aside0 (scriberef05_Prefix.l1 kq a0 x4_5 x5_7 x6_5 x7_5 x8_5 = some (r1, r2)) ∧ Aside0 (kq ≤ kj17) ∧ Drawn0 w w')
         case atStart => exact ⟨(x4_17), ((⟨#[]⟩ : ByteArray)), ((⟨#[]⟩ : ByteArray)), (0), (by first | rfl | (simp; done) | (simp [*]; done) | (simp; unfold wrap64; omega)), (by first | rfl | (simp; done) | (simp [*]; done) | (simp; unfold wrap64; omega)), (by first | rfl | (simp; done) | (simp [*]; done) | (simp; unfold wrap64; omega)), (by first | rfl | (simp; done) | (simp [*]; done) | (simp; unfold wrap64; omega)), H', ⟨Nat.le_refl _⟩, by repeat (first | exact Drawn0.refl _ | apply Drawn0.step)⟩
         case round =>
          clear H'
          try clear c1
          try clear p1
          try clear q1
          try clear hx1
          try clear p2
          try clear c3
          try clear c3b0
          try clear c4
          try clear c4b0
          try clear p5
          try clear q5
          try clear hx5
          try clear p6
          try clear c7
          try clear c9
          try clear c9b0
          try clear c10
          try clear c10b0
          try clear c11
          try clear p11
          try clear q11
          try clear hx11
          try clear c13
          try clear c13b0
          try clear c14
          try clear c14b0
          try clear p15
          try clear q15
          try clear hx15
          try clear c16
          try clear c16b0
          try clear c16b1
          try clear c17
          try clear p17
          try clear q17
          try clear hx17
          try clear c19
          try clear p1
          try clear p11
          try clear p15
          try clear p17
          try clear p2
          try clear p5
          try clear p6
          try clear q1
          try clear q11
          try clear q15
          try clear q17
          try clear q5
          obtain ⟨x4_5, x6_5, x7_5, x8_5, rfl, rfl, rfl, rfl, HA, HK5, ⟨m5, rfl⟩⟩ := hrel
          cases gk with
          | zero => exact absurd HA.out (by simp [scriberef05_Prefix.l1])
          | succ k5 =>
           have H := HA.out
           clear HA
           simp only [scriberef05_Prefix.l1] at H
           have HC20 := Aside0.mk H
           clear H
           go_upto_region 8 with (fail)
           go_cut [74] (fun v74 wc => ∃ (kq : Nat) (x74_19 : Bool), v74 = .bool x74_19 ∧ Aside0 (scriberef05_Prefix.j6 kq a0 x4_5 x5_7 x6_5 x7_5 x8_5 x74_19 = some (r1, r2)) ∧ Aside0 (kq ≤ k5) ∧ Drawn0 w wc)
           case first =>
            have H := HC20.out
            clear HC20
            by_cases c21 : x4_5 < (a0.size : Int)
            ·rw [if_pos c21] at H
             have c21b0 : decide (x4_5 < (a0.size : Int)) = true := decide_eq_true c21
             clear c21
             (first | rw [c21b0] | (simp only [i64_w, i32_w]; rw [c21b0]) | skip)
             by_cases c22 : 0 ≤ x4_5
             ·rw [if_pos c22] at H
              have c22b0 : decide (0 ≤ x4_5) = true := decide_eq_true c22
              clear c22
              by_cases c24 : (bt a0 x4_5) ≥ 48
              ·rw [if_pos c24] at H
               have c24b0 : decide (48 ≤ (bt a0 x4_5)) = true := decide_eq_true c24
               clear c24
               by_cases c26 : (bt a0 x4_5) ≤ 57
               ·rw [if_pos c26] at H
                have c26b0 : decide ((bt a0 x4_5) ≤ 57) = true := decide_eq_true c26
                clear c26
                have H' := Aside0.mk H
                clear H
                have p23 : 0 ≤ (x4_5 : Int) := of_decide_eq_true (by first | (with_reducible assumption) | assumption)
                have q23 : x4_5 < (a0.size : Int) := of_decide_eq_true (by first | (with_reducible assumption) | assumption)
                have hx23 := bt_at a0 x4_5
                replace p23 := eq_true p23
                replace q23 := eq_true q23
                have p25 : 0 ≤ (x4_5 : Int) := of_decide_eq_true (by first | (with_reducible assumption) | assumption)
                have q25 : x4_5 < (a0.size : Int) := of_decide_eq_true (by first | (with_reducible assumption) | assumption)
                have hx25 := bt_at a0 x4_5
                replace p25 := eq_true p25
                replace q25 := eq_true q25
                go_wp2
                go_meet
                case rel => exact ⟨_, (true), (by first | rfl | (simp; done) | (simp [*]; done) | (simp; unfold wrap64; omega)), H', ⟨by have := HJ1.out; have := HJ7.out; have := HJ11.out; have := HJ17.out; have := HK5.out; first | omega | exact Nat.le_refl _⟩, by repeat (first | exact Drawn0.refl _ | apply Drawn0.step)⟩
               ·rw [if_neg c26] at H
                have c26b0 : decide ((bt a0 x4_5) ≤ 57) = false := decide_eq_false c26
                clear c26
                by_cases c28 : (bt a0 x4_5) = 46
                ·rw [if_pos c28] at H
                 have c28b0 : ((bt a0 x4_5) == 46) = true := beq_iff_eq.mpr c28
                 have c28b1 : ((bt a0 x4_5) != 46) = false := bne_eq_false_iff_eq.mpr c28
                 clear c28
                 have H' := Aside0.mk H
                 clear H
                 have p23 : 0 ≤ (x4_5 : Int) := of_decide_eq_true (by first | (with_reducible assumption) | assumption)
                 have q23 : x4_5 < (a0.size : Int) := of_decide_eq_true (by first | (with_reducible assumption) | assumption)
                 have hx23 := bt_at a0 x4_5
                 replace p23 := eq_true p23
                 replace q23 := eq_true q23
                 have p25 : 0 ≤ (x4_5 : Int) := of_decide_eq_true (by first | (with_reducible assumption) | assumption)
                 have q25 : x4_5 < (a0.size : Int) := of_decide_eq_true (by first | (with_reducible assumption) | assumption)
                 have hx25 := bt_at a0 x4_5
                 replace p25 := eq_true p25
                 replace q25 := eq_true q25
                 have p27 : 0 ≤ (x4_5 : Int) := of_decide_eq_true (by first | (with_reducible assumption) | assumption)
                 have q27 : x4_5 < (a0.size : Int) := of_decide_eq_true (by first | (with_reducible assumption) | assumption)
                 have hx27 := bt_at a0 x4_5
                 replace p27 := eq_true p27
                 replace q27 := eq_true q27
                 go_wp2
                 go_meet
                 case rel => exact ⟨_, ((x8_5 == 0)), (by first | rfl | (simp; done) | (simp [*]; done) | (simp; unfold wrap64; omega)), H', ⟨by have := HJ1.out; have := HJ7.out; have := HJ11.out; have := HJ17.out; have := HK5.out; first | omega | exact Nat.le_refl _⟩, by repeat (first | exact Drawn0.refl _ | apply Drawn0.step)⟩
                ·rw [if_neg c28] at H
                 have c28b0 : ((bt a0 x4_5) == 46) = false := beq_eq_false_iff_ne.mpr c28
                 have c28b1 : ((bt a0 x4_5) != 46) = true := bne_iff_ne.mpr c28
                 have H' := Aside0.mk H
                 clear H
                 have p23 : 0 ≤ (x4_5 : Int) := of_decide_eq_true (by first | (with_reducible assumption) | assumption)
                 have q23 : x4_5 < (a0.size : Int) := of_decide_eq_true (by first | (with_reducible assumption) | assumption)
                 have hx23 := bt_at a0 x4_5
                 replace p23 := eq_true p23
                 replace q23 := eq_true q23
                 have p25 : 0 ≤ (x4_5 : Int) := of_decide_eq_true (by first | (with_reducible assumption) | assumption)
                 have q25 : x4_5 < (a0.size : Int) := of_decide_eq_true (by first | (with_reducible assumption) | assumption)
                 have hx25 := bt_at a0 x4_5
                 replace p25 := eq_true p25
                 replace q25 := eq_true q25
                 have p27 : 0 ≤ (x4_5 : Int) := of_decide_eq_true (by first | (with_reducible assumption) | assumption)
                 have q27 : x4_5 < (a0.size : Int) := of_decide_eq_true (by first | (with_reducible assumption) | assumption)
                 have hx27 := bt_at a0 x4_5
                 replace p27 := eq_true p27
                 replace q27 := eq_true q27
                 go_wp2
                 go_meet
                 case rel => exact ⟨_, (false), (by first | rfl | (simp; done) | (simp [*]; done) | (simp; unfold wrap64; omega)), H', ⟨by have := HJ1.out; have := HJ7.out; have := HJ11.out; have := HJ17.out; have := HK5.out; first | omega | exact Nat.le_refl _⟩, by repeat (first | exact Drawn0.refl _ | apply Drawn0.step)⟩
              ·rw [if_neg c24] at H
               have c24b0 : decide (48 ≤ (bt a0 x4_5)) = false := decide_eq_false c24
               clear c24
               by_cases c30 : (bt a0 x4_5) = 46
               ·rw [if_pos c30] at H
                have c30b0 : ((bt a0 x4_5) == 46) = true := beq_iff_eq.mpr c30
                have c30b1 : ((bt a0 x4_5) != 46) = false := bne_eq_false_iff_eq.mpr c30
                clear c30
                have H' := Aside0.mk H
                clear H
                have p23 : 0 ≤ (x4_5 : Int) := of_decide_eq_true (by first | (with_reducible assumption) | assumption)
                have q23 : x4_5 < (a0.size : Int) := of_decide_eq_true (by first | (with_reducible assumption) | assumption)
                have hx23 := bt_at a0 x4_5
                replace p23 := eq_true p23
                replace q23 := eq_true q23
                have p29 : 0 ≤ (x4_5 : Int) := of_decide_eq_true (by first | (with_reducible assumption) | assumption)
                have q29 : x4_5 < (a0.size : Int) := of_decide_eq_true (by first | (with_reducible assumption) | assumption)
                have hx29 := bt_at a0 x4_5
                replace p29 := eq_true p29
                replace q29 := eq_true q29
                go_wp2
                go_meet
                case rel => exact ⟨_, ((x8_5 == 0)), (by first | rfl | (simp; done) | (simp [*]; done) | (simp; unfold wrap64; omega)), H', ⟨by have := HJ1.out; have := HJ7.out; have := HJ11.out; have := HJ17.out; have := HK5.out; first | omega | exact Nat.le_refl _⟩, by repeat (first | exact Drawn0.refl _ | apply Drawn0.step)⟩
               ·rw [if_neg c30] at H
                have c30b0 : ((bt a0 x4_5) == 46) = false := beq_eq_false_iff_ne.mpr c30
                have c30b1 : ((bt a0 x4_5) != 46) = true := bne_iff_ne.mpr c30
                have H' := Aside0.mk H
                clear H
                have p23 : 0 ≤ (x4_5 : Int) := of_decide_eq_true (by first | (with_reducible assumption) | assumption)
                have q23 : x4_5 < (a0.size : Int) := of_decide_eq_true (by first | (with_reducible assumption) | assumption)
                have hx23 := bt_at a0 x4_5
                replace p23 := eq_true p23
                replace q23 := eq_true q23
                have p29 : 0 ≤ (x4_5 : Int) := of_decide_eq_true (by first | (with_reducible assumption) | assumption)
                have q29 : x4_5 < (a0.size : Int) := of_decide_eq_true (by first | (with_reducible assumption) | assumption)
                have hx29 := bt_at a0 x4_5
                replace p29 := eq_true p29
                replace q29 := eq_true q29
                go_wp2
                go_meet
                case rel => exact ⟨_, (false), (by first | rfl | (simp; done) | (simp [*]; done) | (simp; unfold wrap64; omega)), H', ⟨by have := HJ1.out; have := HJ7.out; have := HJ11.out; have := HJ17.out; have := HK5.out; first | omega | exact Nat.le_refl _⟩, by repeat (first | exact Drawn0.refl _ | apply Drawn0.step)⟩
             ·rw [if_neg c22] at H
              exact absurd H (by simp)
            ·rw [if_neg c21] at H
             have c21b0 : decide (x4_5 < (a0.size : Int)) = false := decide_eq_false c21
             clear c21
             (first | rw [c21b0] | (simp only [i64_w, i32_w]; rw [c21b0]) | skip)
             have H' := Aside0.mk H
             clear H
             go_wp2
             go_meet
             case rel => exact ⟨_, (false), (by first | rfl | (simp; done) | (simp [*]; done) | (simp; unfold wrap64; omega)), H', ⟨by have := HJ1.out; have := HJ7.out; have := HJ11.out; have := HJ17.out; have := HK5.out; first | omega | exact Nat.le_refl _⟩, by repeat (first | exact Drawn0.refl _ | apply Drawn0.step)⟩
           case rest =>
            clear HC20
            try clear c1
            try clear p1
            try clear q1
            try clear hx1
            try clear c2
            try clear p2
            try clear q2
            try clear hx2
            try clear c3
            try clear c3b0
            try clear c4
            try clear c4b0
            try clear p5
            try clear q5
            try clear hx5
            try clear p6
            try clear c7
            try clear c9
            try clear c9b0
            try clear c10
            try clear c10b0
            try clear c11
            try clear p11
            try clear q11
            try clear hx11
            try clear c13
            try clear c13b0
            try clear c14
            try clear c14b0
            try clear p15
            try clear q15
            try clear hx15
            try clear c16
            try clear c16b0
            try clear c16b1
            try clear c17
            try clear p17
            try clear q17
            try clear hx17
            try clear c19
            try clear c21
            try clear c21b0
            try clear c22
            try clear c22b0
            try clear p23
            try clear q23
            try clear hx23
            try clear c24
            try clear c24b0
            try clear p25
            try clear q25
            try clear hx25
            try clear c26
            try clear c26b0
            try clear p27
            try clear q27
            try clear hx27
            try clear c28
            try clear c28b0
            try clear c28b1
            try clear p29
            try clear q29
            try clear hx29
            try clear c30
            try clear c30b0
            try clear c30b1
            try clear p1
            try clear p11
            try clear p15
            try clear p17
            try clear p2
            try clear p23
            try clear p25
            try clear p27
            try clear p29
            try clear p5
            try clear p6
            try clear q1
            try clear q11
            try clear q15
            try clear q17
            try clear q23
            try clear q25
            try clear q27
            try clear q29
            try clear q5
            obtain ⟨kq, x74_19, rfl, HA, HJ19, ⟨mc19, rfl⟩⟩ := hcut
            cases kq with
            | zero => exact absurd HA.out (by simp [scriberef05_Prefix.j6])
            | succ kj19 =>
             have H := HA.out
             clear HA
             simp only [scriberef05_Prefix.j6] at H
             by_cases c31 : x74_19 = true
             ·subst c31
              have H1 : (if 0 ≤ x4_5 then (if x4_5 < (a0.size : Int) then (if (bt a0 x4_5) = 46 then (scriberef05_Prefix.l1 kj19 a0 (wrap64 (x4_5 + 1)) x5_7 x6_5 x7_5 1) else (if x8_5 = 0 then (if x4_5 ≤ (wrap64 (x4_5 + 1)) then (if (wrap64 (x4_5 + 1)) ≤ (a0.size : Int) then (if x6_5.size + (a0.extract (x4_5 : Int).toNat ((wrap64 (x4_5 + 1)) : Int).toNat).size ≤ 9223372036854775807 then (scriberef05_Prefix.l1 kj19 a0 (wrap64 (x4_5 + 1)) x5_7 (x6_5 ++ (a0.extract (x4_5 : Int).toNat ((wrap64 (x4_5 + 1)) : Int).toNat)) x7_5 x8_5) else (none)) else (none)) else (none)) else (if x4_5 ≤ (wrap64 (x4_5 + 1)) then (if (wrap64 (x4_5 + 1)) ≤ (a0.size : Int) then (if x7_5.size + (a0.extract (x4_5 : Int).toNat ((wrap64 (x4_5 + 1)) : Int).toNat).size ≤ 9223372036854775807 then (scriberef05_Prefix.l1 kj19 a0 (wrap64 (x4_5 + 1)) x5_7 x6_5 (x7_5 ++ (a0.extract (x4_5 : Int).toNat ((wrap64 (x4_5 + 1)) : Int).toNat)) x8_5) else (none)) else (none)) else (none)))) else (none)) else (none)) = some (r1, r2) := by rw [if_pos rfl] at H; exact H
              clear H
              have H := H1
              clear H1
              by_cases c32 : 0 ≤ x4_5
              ·rw [if_pos c32] at H
               have c32b0 : decide (0 ≤ x4_5) = true := decide_eq_true c32
               clear c32
               by_cases c33 : x4_5 < (a0.size : Int)
               ·rw [if_pos c33] at H
                have c33b0 : decide (x4_5 < (a0.size : Int)) = true := decide_eq_true c33
                clear c33
                by_cases c35 : (bt a0 x4_5) = 46
                ·rw [if_pos c35] at H
                 have c35b0 : ((bt a0 x4_5) == 46) = true := beq_iff_eq.mpr c35
                 have c35b1 : ((bt a0 x4_5) != 46) = false := bne_eq_false_iff_eq.mpr c35
                 clear c35
                 have H' := Aside0.mk H
                 clear H
                 have p34 : 0 ≤ (x4_5 : Int) := of_decide_eq_true (by first | (with_reducible assumption) | assumption)
                 have q34 : x4_5 < (a0.size : Int) := of_decide_eq_true (by first | (with_reducible assumption) | assumption)
                 have hx34 := bt_at a0 x4_5
                 replace p34 := eq_true p34
                 replace q34 := eq_true q34
                 go_wp2
                 go_roundg kj19
                 case measure => have := HJ1.out; have := HJ7.out; have := HJ11.out; have := HJ17.out; have := HK5.out; have := HJ19.out; omega
                 case rel => exact ⟨(wrap64 (x4_5 + 1)), (x6_5), (x7_5), (1), (by first | rfl | (simp; done) | (simp [*]; done) | (simp; unfold wrap64; omega)), (by first | rfl | (simp; done) | (simp [*]; done) | (simp; unfold wrap64; omega)), (by first | rfl | (simp; done) | (simp [*]; done) | (simp; unfold wrap64; omega)), (by first | rfl | (simp; done) | (simp [*]; done) | (simp; unfold wrap64; omega)), H', ⟨by have := HJ1.out; have := HJ7.out; have := HJ11.out; have := HJ17.out; have := HK5.out; have := HJ19.out; omega⟩, by repeat (first | exact Drawn0.refl _ | apply Drawn0.step)⟩
                ·rw [if_neg c35] at H
                 have c35b0 : ((bt a0 x4_5) == 46) = false := beq_eq_false_iff_ne.mpr c35
                 have c35b1 : ((bt a0 x4_5) != 46) = true := bne_iff_ne.mpr c35
                 by_cases c36 : x8_5 = 0
                 ·rw [if_pos c36] at H
                  have c36b0 : (x8_5 == 0) = true := beq_iff_eq.mpr c36
                  have c36b1 : (x8_5 != 0) = false := bne_eq_false_iff_eq.mpr c36
                  clear c36
                  have c37b0 := eq_true (of_decide_eq_true (by first | (with_reducible assumption) | assumption) : 0 ≤ x4_5)
                  by_cases c38 : x4_5 ≤ (wrap64 (x4_5 + 1))
                  ·rw [if_pos c38] at H
                   have c38b0 := eq_true c38
                   have c38b1 : decide (x4_5 ≤ (wrap64 (x4_5 + 1))) = true := decide_eq_true c38
                   by_cases c39 : (wrap64 (x4_5 + 1)) ≤ (a0.size : Int)
                   ·rw [if_pos c39] at H
                    have c39b0 := eq_true c39
                    have c39b1 : decide ((wrap64 (x4_5 + 1)) ≤ (a0.size : Int)) = true := decide_eq_true c39
                    by_cases c40 : x6_5.size + (a0.extract (x4_5 : Int).toNat ((wrap64 (x4_5 + 1)) : Int).toNat).size ≤ 9223372036854775807
                    ·rw [if_pos c40] at H
                     have c40b0 := eq_true c40
                     have c40b1 : decide (x6_5.size + (a0.extract (x4_5 : Int).toNat ((wrap64 (x4_5 + 1)) : Int).toNat).size ≤ 9223372036854775807) = true := decide_eq_true c40
                     try have c40b2 : (9223372036854775807 < x6_5.size + (a0.extract (x4_5 : Int).toNat ((wrap64 (x4_5 + 1)) : Int).toNat).size) = False := eq_false (Nat.not_lt.2 c40)
                     try (have c40b3 := c40b2; simp only [ByteArray.size_append', ba_size_mk, List.size_toArray, List.length_cons, List.length_nil, Nat.zero_add, Nat.reduceAdd, ByteArray.size_extract, Nat.sub_zero] at c40b3)
                     have H' := Aside0.mk H
                     clear H
                     have p34 : 0 ≤ (x4_5 : Int) := of_decide_eq_true (by first | (with_reducible assumption) | assumption)
                     have q34 : x4_5 < (a0.size : Int) := of_decide_eq_true (by first | (with_reducible assumption) | assumption)
                     have hx34 := bt_at a0 x4_5
                     replace p34 := eq_true p34
                     replace q34 := eq_true q34
                     go_wp2
                     go_roundg kj19
                     case measure => have := HJ1.out; have := HJ7.out; have := HJ11.out; have := HJ17.out; have := HK5.out; have := HJ19.out; omega
                     case rel => exact ⟨(wrap64 (x4_5 + 1)), (x6_5 ++ (a0.extract (x4_5 : Int).toNat ((wrap64 (x4_5 + 1)) : Int).toNat)), (x7_5), (x8_5), (by first | rfl | (simp; done) | (simp [*]; done) | (simp; unfold wrap64; omega)), (by first | rfl | (simp; done) | (simp [*]; done) | (simp; unfold wrap64; omega)), (by first | rfl | (simp; done) | (simp [*]; done) | (simp; unfold wrap64; omega)), (by first | rfl | (simp; done) | (simp [*]; done) | (simp; unfold wrap64; omega)), H', ⟨by have := HJ1.out; have := HJ7.out; have := HJ11.out; have := HJ17.out; have := HK5.out; have := HJ19.out; omega⟩, by repeat (first | exact Drawn0.refl _ | apply Drawn0.step)⟩
                    ·rw [if_neg c40] at H
                     exact absurd H (by simp)
                   ·rw [if_neg c39] at H
                    exact absurd H (by simp)
                  ·rw [if_neg c38] at H
                   exact absurd H (by simp)
                 ·rw [if_neg c36] at H
                  have c36b0 : (x8_5 == 0) = false := beq_eq_false_iff_ne.mpr c36
                  have c36b1 : (x8_5 != 0) = true := bne_iff_ne.mpr c36
                  have c41b0 := eq_true (of_decide_eq_true (by first | (with_reducible assumption) | assumption) : 0 ≤ x4_5)
                  by_cases c42 : x4_5 ≤ (wrap64 (x4_5 + 1))
                  ·rw [if_pos c42] at H
                   have c42b0 := eq_true c42
                   have c42b1 : decide (x4_5 ≤ (wrap64 (x4_5 + 1))) = true := decide_eq_true c42
                   by_cases c43 : (wrap64 (x4_5 + 1)) ≤ (a0.size : Int)
                   ·rw [if_pos c43] at H
                    have c43b0 := eq_true c43
                    have c43b1 : decide ((wrap64 (x4_5 + 1)) ≤ (a0.size : Int)) = true := decide_eq_true c43
                    by_cases c44 : x7_5.size + (a0.extract (x4_5 : Int).toNat ((wrap64 (x4_5 + 1)) : Int).toNat).size ≤ 9223372036854775807
                    ·rw [if_pos c44] at H
                     have c44b0 := eq_true c44
                     have c44b1 : decide (x7_5.size + (a0.extract (x4_5 : Int).toNat ((wrap64 (x4_5 + 1)) : Int).toNat).size ≤ 9223372036854775807) = true := decide_eq_true c44
                     try have c44b2 : (9223372036854775807 < x7_5.size + (a0.extract (x4_5 : Int).toNat ((wrap64 (x4_5 + 1)) : Int).toNat).size) = False := eq_false (Nat.not_lt.2 c44)
                     try (have c44b3 := c44b2; simp only [ByteArray.size_append', ba_size_mk, List.size_toArray, List.length_cons, List.length_nil, Nat.zero_add, Nat.reduceAdd, ByteArray.size_extract, Nat.sub_zero] at c44b3)
                     have H' := Aside0.mk H
                     clear H
                     have p34 : 0 ≤ (x4_5 : Int) := of_decide_eq_true (by first | (with_reducible assumption) | assumption)
                     have q34 : x4_5 < (a0.size : Int) := of_decide_eq_true (by first | (with_reducible assumption) | assumption)
                     have hx34 := bt_at a0 x4_5
                     replace p34 := eq_true p34
                     replace q34 := eq_true q34
                     go_wp2
                     go_roundg kj19
                     case measure => have := HJ1.out; have := HJ7.out; have := HJ11.out; have := HJ17.out; have := HK5.out; have := HJ19.out; omega
                     case rel => exact ⟨(wrap64 (x4_5 + 1)), (x6_5), (x7_5 ++ (a0.extract (x4_5 : Int).toNat ((wrap64 (x4_5 + 1)) : Int).toNat)), (x8_5), (by first | rfl | (simp; done) | (simp [*]; done) | (simp; unfold wrap64; omega)), (by first | rfl | (simp; done) | (simp [*]; done) | (simp; unfold wrap64; omega)), (by first | rfl | (simp; done) | (simp [*]; done) | (simp; unfold wrap64; omega)), (by first | rfl | (simp; done) | (simp [*]; done) | (simp; unfold wrap64; omega)), H', ⟨by have := HJ1.out; have := HJ7.out; have := HJ11.out; have := HJ17.out; have := HK5.out; have := HJ19.out; omega⟩, by repeat (first | exact Drawn0.refl _ | apply Drawn0.step)⟩
                    ·rw [if_neg c44] at H
                     exact absurd H (by simp)
                   ·rw [if_neg c43] at H
                    exact absurd H (by simp)
                  ·rw [if_neg c42] at H
                   exact absurd H (by simp)
               ·rw [if_neg c33] at H
                exact absurd H (by simp)
              ·rw [if_neg c32] at H
               exact absurd H (by simp)
             ·replace c31 := Bool.eq_false_iff.mpr c31
              subst c31
              have H1 : (if (wrap64 ((x6_5.size : Int) + (x7_5.size : Int))) = 0 then (some (0, 0)) else (if x7_5.size + 6 ≤ 9223372036854775807 then (if 0 ≤ 6 then (if 6 ≤ ((x7_5 ++ (⟨#[48, 48, 48, 48, 48, 48]⟩ : ByteArray)).size : Int) then (if x6_5.size + ((x7_5 ++ (⟨#[48, 48, 48, 48, 48, 48]⟩ : ByteArray)).extract 0 6).size ≤ 9223372036854775807 then ((scriberef05_strip.f kj19 (x6_5 ++ ((x7_5 ++ (⟨#[48, 48, 48, 48, 48, 48]⟩ : ByteArray)).extract 0 6))).bind fun t252 => ((scriberef05_Signed.f kj19 x5_7 t252).bind fun t253 => (some (t253, x4_5)))) else (none)) else (none)) else (none)) else (none))) = some (r1, r2) := by rw [if_neg (show ¬ (false = true) by decide)] at H; exact H
              clear H
              have H := H1
              clear H1
              by_cases c45 : (wrap64 ((x6_5.size : Int) + (x7_5.size : Int))) = 0
              ·rw [if_pos c45] at H
               have c45b0 : ((wrap64 ((x6_5.size : Int) + (x7_5.size : Int))) == 0) = true := beq_iff_eq.mpr c45
               have c45b1 : ((wrap64 ((x6_5.size : Int) + (x7_5.size : Int))) != 0) = false := bne_eq_false_iff_eq.mpr c45
               clear c45
               simp only [Option.some.injEq, Prod.mk.injEq] at H
               obtain ⟨rfl, rfl⟩ := H
               go_wp2
               go_ret2
               exact ⟨by first | rfl | (simp; done) | (simp [*]; done) | (simp; unfold wrap64; omega), by repeat (first | exact Drawn0.refl _ | apply Drawn0.step)⟩
              ·rw [if_neg c45] at H
               have c45b0 : ((wrap64 ((x6_5.size : Int) + (x7_5.size : Int))) == 0) = false := beq_eq_false_iff_ne.mpr c45
               have c45b1 : ((wrap64 ((x6_5.size : Int) + (x7_5.size : Int))) != 0) = true := bne_iff_ne.mpr c45
               by_cases c46 : x7_5.size + 6 ≤ 9223372036854775807
               ·rw [if_pos c46] at H
                have c46b0 := eq_true c46
                have c46b1 : decide (x7_5.size + 6 ≤ 9223372036854775807) = true := decide_eq_true c46
                try have c46b2 : (9223372036854775807 < x7_5.size + 6) = False := eq_false (Nat.not_lt.2 c46)
                try (have c46b3 := c46b2; simp only [ByteArray.size_append', ba_size_mk, List.size_toArray, List.length_cons, List.length_nil, Nat.zero_add, Nat.reduceAdd, ByteArray.size_extract, Nat.sub_zero] at c46b3)
                by_cases c47 : 0 ≤ 6
                ·rw [if_pos c47] at H
                 have c47b0 := eq_true c47
                 have c47b1 : decide (0 ≤ 6) = true := decide_eq_true c47
                 clear c47
                 by_cases c48 : 6 ≤ ((x7_5 ++ (⟨#[48, 48, 48, 48, 48, 48]⟩ : ByteArray)).size : Int)
                 ·rw [if_pos c48] at H
                  have c48b0 := eq_true c48
                  have c48b1 : decide (6 ≤ ((x7_5 ++ (⟨#[48, 48, 48, 48, 48, 48]⟩ : ByteArray)).size : Int)) = true := decide_eq_true c48
                  by_cases c49 : x6_5.size + ((x7_5 ++ (⟨#[48, 48, 48, 48, 48, 48]⟩ : ByteArray)).extract 0 6).size ≤ 9223372036854775807
                  ·rw [if_pos c49] at H
                   have c49b0 := eq_true c49
                   have c49b1 : decide (x6_5.size + ((x7_5 ++ (⟨#[48, 48, 48, 48, 48, 48]⟩ : ByteArray)).extract 0 6).size ≤ 9223372036854775807) = true := decide_eq_true c49
                   try have c49b2 : (9223372036854775807 < x6_5.size + ((x7_5 ++ (⟨#[48, 48, 48, 48, 48, 48]⟩ : ByteArray)).extract 0 6).size) = False := eq_false (Nat.not_lt.2 c49)
                   try (have c49b3 := c49b2; simp only [ByteArray.size_append', ba_size_mk, List.size_toArray, List.length_cons, List.length_nil, Nat.zero_add, Nat.reduceAdd, ByteArray.size_extract, Nat.sub_zero] at c49b3)
                   replace H := Option.bind_eq_some_iff.mp H
                   obtain ⟨t252, A500, H⟩ := H
                   replace H : ((scriberef05_Signed.f kj19 x5_7 t252).bind fun t253 => (some (t253, x4_5))) = some (r1, r2) := H
                   have A50 := Aside0.mk A500
                   clear A500
                   replace H := Option.bind_eq_some_iff.mp H
                   obtain ⟨t253, A510, H⟩ := H
                   replace H : (some (t253, x4_5)) = some (r1, r2) := H
                   have A51 := Aside0.mk A510
                   clear A510
                   simp only [Option.some.injEq, Prod.mk.injEq] at H
                   obtain ⟨rfl, rfl⟩ := H
                   go_wp2_with (first | ((with_reducible refine gate_callee (f := 54) rfl ?_); refine goesL_ (some 109) rfl rfl Tryd.func54 (by kernel_rfl) rfl #[.string (x6_5 ++ ((x7_5 ++ (⟨#[48, 48, 48, 48, 48, 48]⟩ : ByteArray)).extract 0 6))] rfl (by (try simp only [List.map_toArray, List.map_cons, List.map_nil]); first | done | rfl | (simp only [List.length_drop, List.length_take]; rfl)) ?_; (with_reducible refine (scriberef05_strip.calls kj19 (x6_5 ++ ((x7_5 ++ (⟨#[48, 48, 48, 48, 48, 48]⟩ : ByteArray)).extract 0 6)) t252 _ ?side1 A50.out).mono ?_); (case side1 => repeat (first | exact hT | apply TB.drewN | apply TB.drew)); rintro e w' ⟨rfl, ⟨nd, rfl⟩⟩; refine ⟨_, rfl, ?_⟩) | ((with_reducible refine gate_callee (f := 53) rfl ?_); refine goesL_ (some 110) rfl rfl Tryd.func53 (by kernel_rfl) rfl #[.bool x5_7, .string t252] rfl (by (try simp only [List.map_toArray, List.map_cons, List.map_nil]); first | done | rfl | (simp only [List.length_drop, List.length_take]; rfl)) ?_; (with_reducible refine (scriberef05_Signed.calls kj19 x5_7 t252 t253 _ ?side1 A51.out).mono ?_); (case side1 => repeat (first | exact hT | apply TB.drewN | apply TB.drew)); rintro e w' ⟨rfl, ⟨nd, rfl⟩⟩; refine ⟨_, rfl, ?_⟩))
                   go_ret2
                   exact ⟨by first | rfl | (simp; done) | (simp [*]; done) | (simp; unfold wrap64; omega), by repeat (first | exact Drawn0.refl _ | apply Drawn0.step)⟩
                  ·rw [if_neg c49] at H
                   exact absurd H (by simp)
                 ·rw [if_neg c48] at H
                  exact absurd H (by simp)
                ·rw [if_neg c47] at H
                 exact absurd H (by simp)
               ·rw [if_neg c46] at H
                exact absurd H (by simp)

end Go.Proofs.YtmhhklenaadobaaDoor.Pr
