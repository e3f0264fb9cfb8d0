/- The machine's side, written by a patched print (wip/tools): each theorem says that a call of the Go function comes to what the Lean function beside it computes, where the tables are laid (TB). -/
import Derived.Test.YtpnkcihiliagcaaDoorPr0
import Derived.Test.YtpnkcihiliagcaaDoorPr17
import Derived.Test.YtpnkcihiliagcaaDoorPr18
import Derived.Test.YtpnkcihiliagcaaDoorPr19
import Derived.Test.YtpnkcihiliagcaaDoorPr20
namespace Go.Proofs.YtpnkcihiliagcaaDoor.Pr
open Go.RowKit Go.Proofs.YtpnkcihiliagcaaDoorW.PrintWords Go.Proofs.YtpnkcihiliagcaaDoorW.PrintLast Go.Proofs.YtpnkcihiliagcaaDoorW.PrintMore
attribute [local go_sem] fld29_0 fld29_1 fld29_2 fld43_0 fld43_1 fld43_2 fld46_0 fld46_1 fld46_2 binOp_string_gtr2 binOp_string_leq2 binOp_string_geq2 max2_int min2_int max_two min_two max_three min_three max_four min_four   -- for this text's walks alone
set_option linter.unusedVariables false
set_option linter.unusedSimpArgs false

/-! ### scriberef11_one: function 19 -/
mutual
def scriberef11_one.j0 : Nat → ByteArray → Int → List (S46) → Int → Bool → Option (Int × ByteArray × Int × Int)
 | 0, _, _, _, _, _ => none
 | k + 1, x0, x1, x2, x8, x38 => if x38 = true then ((scriberef11_run.f k x0 x1).bind fun t314 => (if (wrap64 (x1 + t314)) < (x0.size : Int) then (if 0 ≤ (wrap64 (x1 + t314)) then (if (bt x0 (wrap64 (x1 + t314))) = 46 then ((scriberef11_run.f k x0 (wrap64 ((wrap64 (x1 + t314)) + 1))).bind fun t315 => (if 0 ≤ x1 then (if x1 ≤ (wrap64 ((wrap64 (x1 + t314)) + (wrap64 (1 + t315)))) then (if (wrap64 ((wrap64 (x1 + t314)) + (wrap64 (1 + t315)))) ≤ (x0.size : Int) then (some (2, x0.extract (x1 : Int).toNat ((wrap64 ((wrap64 (x1 + t314)) + (wrap64 (1 + t315)))) : Int).toNat, x1, wrap64 ((wrap64 (x1 + t314)) + (wrap64 (1 + t315))))) else (none)) else (none)) else (none))) else (if 0 ≤ x1 then (if x1 ≤ (wrap64 (x1 + t314)) then (if (wrap64 (x1 + t314)) ≤ (x0.size : Int) then (some (2, x0.extract (x1 : Int).toNat ((wrap64 (x1 + t314)) : Int).toNat, x1, wrap64 (x1 + t314))) else (none)) else (none)) else (none))) else (none)) else (if 0 ≤ x1 then (if x1 ≤ (wrap64 (x1 + t314)) then (if (wrap64 (x1 + t314)) ≤ (x0.size : Int) then (some (2, x0.extract (x1 : Int).toNat ((wrap64 (x1 + t314)) : Int).toNat, x1, wrap64 (x1 + t314))) else (none)) else (none)) else (none)))) else ((scriberef11_letter.f x8).bind fun t316 => (if t316 = true then (scriberef11_one.l0 k x0 x1 x1) else (if x8 = 34 then ((scriberef11_quoted.f k x0 x1 34 false).bind fun bt323 => (some (3, bt323.1, x1, bt323.2))) else (if x8 = 47 then ((scriberef11_pattern.f k x2).bind fun t325 => (scriberef11_one.j6 k x0 x1 t325)) else (scriberef11_one.j6 k x0 x1 false)))))
def scriberef11_one.j2 : Nat → ByteArray → Int → Int → Option (Int × ByteArray × Int × Int)
 | 0, _, _, _ => none
 | k + 1, x0, x1, x10 => if 0 ≤ x1 then (if x1 ≤ x10 then (if x10 ≤ (x0.size : Int) then (if x10 < (x0.size : Int) then (if 0 ≤ x10 then (scriberef11_one.j3 k x1 x10 (x0.extract (x1 : Int).toNat (x10 : Int).toNat) 5 ((bt x0 x10) == 40)) else (none)) else (scriberef11_one.j3 k x1 x10 (x0.extract (x1 : Int).toNat (x10 : Int).toNat) 5 false)) else (none)) else (none)) else (none)
def scriberef11_one.j3 : Nat → Int → Int → ByteArray → Int → Bool → Option (Int × ByteArray × Int × Int)
 | 0, _, _, _, _, _ => none
 | k + 1, x1, x10, x11, x12, x102 => if x102 = true then (scriberef11_one.j4 k x1 x10 x11 6) else (scriberef11_one.j4 k x1 x10 x11 x12)
def scriberef11_one.j4 : Nat → Int → Int → ByteArray → Int → Option (Int × ByteArray × Int × Int)
 | 0, _, _, _, _ => none
 | k + 1, x1, x10, x11, x12 => (scriberef11_among.f k x11 (⟨#[66, 69, 71, 73, 78, 32, 69, 78, 68, 32, 102, 117, 110, 99, 116, 105, 111, 110, 32, 105, 102, 32, 101, 108, 115, 101, 32, 119, 104, 105, 108, 101, 32, 102, 111, 114, 32, 105, 110, 32, 98, 114, 101, 97, 107, 32, 99, 111, 110, 116, 105, 110, 117, 101, 32, 110, 101, 120, 116, 32, 101, 120, 105, 116, 32, 114, 101, 116, 117, 114, 110, 32, 100, 101, 108, 101, 116, 101, 32, 112, 114, 105, 110, 116, 32, 112, 114, 105, 110, 116, 102]⟩ : ByteArray)).bind fun t319 => (if t319 = true then (scriberef11_one.j5 k x1 x10 x11 7) else (scriberef11_one.j5 k x1 x10 x11 x12))
def scriberef11_one.j5 : Nat → Int → Int → ByteArray → Int → Option (Int × ByteArray × Int × Int)
 | 0, _, _, _, _ => none
 | k + 1, x1, x10, x11, x12 => (scriberef11_among.f k x11 (⟨#[108, 101, 110, 103, 116, 104, 32, 115, 117, 98, 115, 116, 114, 32, 105, 110, 100, 101, 120, 32, 115, 112, 108, 105, 116, 32, 115, 117, 98, 32, 103, 115, 117, 98, 32, 109, 97, 116, 99, 104, 32, 116, 111, 108, 111, 119, 101, 114, 32, 116, 111, 117, 112, 112, 101, 114, 32, 105, 110, 116, 32, 115, 112, 114, 105, 110, 116, 102, 32, 114, 97, 110, 100, 32, 115, 114, 97, 110, 100]⟩ : ByteArray)).bind fun t320 => (if t320 = true then ((scriberef11_among.f k x11 (⟨#[103, 101, 116, 108, 105, 110, 101, 32, 115, 121, 115, 116, 101, 109, 32, 99, 108, 111, 115, 101, 32, 102, 102, 108, 117, 115, 104, 32, 115, 121, 115, 116, 105, 109, 101, 32, 115, 116, 114, 102, 116, 105, 109, 101]⟩ : ByteArray)).bind fun t321 => (if t321 = true then (some (10, x11, x1, x10)) else (some (9, x11, x1, x10)))) else ((scriberef11_among.f k x11 (⟨#[103, 101, 116, 108, 105, 110, 101, 32, 115, 121, 115, 116, 101, 109, 32, 99, 108, 111, 115, 101, 32, 102, 102, 108, 117, 115, 104, 32, 115, 121, 115, 116, 105, 109, 101, 32, 115, 116, 114, 102, 116, 105, 109, 101]⟩ : ByteArray)).bind fun t322 => (if t322 = true then (some (10, x11, x1, x10)) else (some (x12, x11, x1, x10)))))
def scriberef11_one.l0 : Nat → ByteArray → Int → Int → Option (Int × ByteArray × Int × Int)
 | 0, _, _, _ => none
 | k + 1, x0, x1, x10 => if x10 < (x0.size : Int) then (if 0 ≤ x10 then ((scriberef11_letter.f (bt x0 x10)).bind fun t317 => (if t317 = true then (scriberef11_one.l0 k x0 x1 (wrap64 (x10 + 1))) else ((scriberef11_digit.f (bt x0 x10)).bind fun t318 => (if t318 = true then (scriberef11_one.l0 k x0 x1 (wrap64 (x10 + 1))) else (scriberef11_one.j2 k x0 x1 x10))))) else (none)) else (scriberef11_one.j2 k x0 x1 x10)
def scriberef11_one.j6 : Nat → ByteArray → Int → Bool → Option (Int × ByteArray × Int × Int)
 | 0, _, _, _ => none
 | k + 1, x0, x1, x131 => if x131 = true then ((scriberef11_quoted.f k x0 x1 47 true).bind fun bt326 => (some (4, bt326.1, x1, bt326.2))) else (if (wrap64 (x1 + 1)) < (x0.size : Int) then (if 0 ≤ x1 then (if x1 ≤ (wrap64 (x1 + 2)) then (if (wrap64 (x1 + 2)) ≤ (x0.size : Int) then ((scriberef11_among.f k (x0.extract (x1 : Int).toNat ((wrap64 (x1 + 2)) : Int).toNat) (⟨#[43, 61, 32, 45, 61, 32, 42, 61, 32, 47, 61, 32, 37, 61, 32, 61, 61, 32, 60, 61, 32, 62, 61, 32, 33, 61, 32, 43, 43, 32, 45, 45, 32, 38, 38, 32, 124, 124, 32, 62, 62, 32, 33, 126]⟩ : ByteArray)).bind fun t328 => (scriberef11_one.j7 k x0 x1 t328)) else (none)) else (none)) else (none)) else (scriberef11_one.j7 k x0 x1 false))
def scriberef11_one.j7 : Nat → ByteArray → Int → Bool → Option (Int × ByteArray × Int × Int)
 | 0, _, _, _ => none
 | k + 1, x0, x1, x154 => if x154 = true then (if 0 ≤ x1 then (if x1 ≤ (wrap64 (x1 + 2)) then (if (wrap64 (x1 + 2)) ≤ (x0.size : Int) then (some (8, x0.extract (x1 : Int).toNat ((wrap64 (x1 + 2)) : Int).toNat, x1, wrap64 (x1 + 2))) else (none)) else (none)) else (none)) else (if 0 ≤ x1 then (if x1 ≤ (wrap64 (x1 + 1)) then (if (wrap64 (x1 + 1)) ≤ (x0.size : Int) then ((scriberef11_among.f k (x0.extract (x1 : Int).toNat ((wrap64 (x1 + 1)) : Int).toNat) (⟨#[123, 32, 125, 32, 40, 32, 41, 32, 91, 32, 93, 32, 59, 32, 44, 32, 43, 32, 45, 32, 42, 32, 47, 32, 37, 32, 33, 32, 62, 32, 60, 32, 124, 32, 63, 32, 58, 32, 126, 32, 36, 32, 61]⟩ : ByteArray)).bind fun t329 => (if t329 = true then (some (8, x0.extract (x1 : Int).toNat ((wrap64 (x1 + 1)) : Int).toNat, x1, wrap64 (x1 + 1))) else (some (0, (⟨#[]⟩ : ByteArray), 0, (-1))))) else (none)) else (none)) else (none))
end
def scriberef11_one.f (k : Nat) (a0 : ByteArray) (a1 : Int) (l2 : List (S46)) : Option (Int × ByteArray × Int × Int) := if 0 ≤ a1 then (if a1 < (a0.size : Int) then (if (bt a0 a1) = 10 then (some (1, (⟨#[]⟩ : ByteArray), a1, wrap64 (a1 + 1))) else ((scriberef11_digit.f (bt a0 a1)).bind fun t312 => (if t312 = true then (scriberef11_one.j0 k a0 a1 l2 (bt a0 a1) true) else (if (bt a0 a1) = 46 then ((scriberef11_run.f k a0 (wrap64 (a1 + 1))).bind fun t313 => (scriberef11_one.j0 k a0 a1 l2 (bt a0 a1) (decide (t313 > 0)))) else (scriberef11_one.j0 k a0 a1 l2 (bt a0 a1) false))))) else (none)) else (none)
theorem scriberef11_one.mono_l : ∀ k, (∀ y0 y1 y2 y3 y4, LeO (scriberef11_one.j0 k y0 y1 y2 y3 y4) (scriberef11_one.j0 (k + 1) y0 y1 y2 y3 y4)) ∧ (∀ y0 y1 y2, LeO (scriberef11_one.j2 k y0 y1 y2) (scriberef11_one.j2 (k + 1) y0 y1 y2)) ∧ (∀ y0 y1 y2 y3 y4, LeO (scriberef11_one.j3 k y0 y1 y2 y3 y4) (scriberef11_one.j3 (k + 1) y0 y1 y2 y3 y4)) ∧ (∀ y0 y1 y2 y3, LeO (scriberef11_one.j4 k y0 y1 y2 y3) (scriberef11_one.j4 (k + 1) y0 y1 y2 y3)) ∧ (∀ y0 y1 y2 y3, LeO (scriberef11_one.j5 k y0 y1 y2 y3) (scriberef11_one.j5 (k + 1) y0 y1 y2 y3)) ∧ (∀ y0 y1 y2, LeO (scriberef11_one.l0 k y0 y1 y2) (scriberef11_one.l0 (k + 1) y0 y1 y2)) ∧ (∀ y0 y1 y2, LeO (scriberef11_one.j6 k y0 y1 y2) (scriberef11_one.j6 (k + 1) y0 y1 y2)) ∧ (∀ y0 y1 y2, LeO (scriberef11_one.j7 k y0 y1 y2) (scriberef11_one.j7 (k + 1) y0 y1 y2))
 | 0 => ⟨fun _ _ _ _ _ r h => by simp [scriberef11_one.j0] at h, fun _ _ _ r h => by simp [scriberef11_one.j2] at h, fun _ _ _ _ _ r h => by simp [scriberef11_one.j3] at h, fun _ _ _ _ r h => by simp [scriberef11_one.j4] at h, fun _ _ _ _ r h => by simp [scriberef11_one.j5] at h, fun _ _ _ r h => by simp [scriberef11_one.l0] at h, fun _ _ _ r h => by simp [scriberef11_one.j6] at h, fun _ _ _ r h => by simp [scriberef11_one.j7] at h⟩
 | k + 1 => by
  obtain ⟨ih0, ih1, ih2, ih3, ih4, ih5, ih6, ih7⟩ := scriberef11_one.mono_l k
  refine ⟨?_, ?_, ?_, ?_, ?_, ?_, ?_, ?_⟩
  ·intro y0 y1 y2 y3 y4
   unfold scriberef11_one.j0
   repeat' first
   | (with_reducible exact ih0 _ _ _ _ _)
   | (with_reducible exact ih1 _ _ _)
   | (with_reducible exact ih2 _ _ _ _ _)
   | (with_reducible exact ih3 _ _ _ _)
   | (with_reducible exact ih4 _ _ _ _)
   | (with_reducible exact ih5 _ _ _)
   | (with_reducible exact ih6 _ _ _)
   | (with_reducible exact ih7 _ _ _)
   | (with_reducible exact scriberef11_among.mono _ _ _)
   | (with_reducible exact scriberef11_pattern.mono _ _)
   | (with_reducible exact scriberef11_quoted.mono _ _ _ _ _)
   | (with_reducible exact scriberef11_run.mono _ _ _)
   | (with_reducible exact LeO.refl _)
   | (with_reducible exact LeO.none _)
   | (with_reducible refine LeO.ite ?_ ?_)
   | (with_reducible refine LeO.bind ?_ (fun _ => ?_))
   | exact ih0 _ _ _ _ _
   | exact ih1 _ _ _
   | exact ih2 _ _ _ _ _
   | exact ih3 _ _ _ _
   | exact ih4 _ _ _ _
   | exact ih5 _ _ _
   | exact ih6 _ _ _
   | exact ih7 _ _ _
   | exact scriberef11_among.mono _ _ _
   | exact scriberef11_pattern.mono _ _
   | exact scriberef11_quoted.mono _ _ _ _ _
   | exact scriberef11_run.mono _ _ _
   | exact LeO.none _
   | refine LeO.ite ?_ ?_
   | refine LeO.bind ?_ (fun _ => ?_)
  ·intro y0 y1 y2
   unfold scriberef11_one.j2
   repeat' first
   | (with_reducible exact ih0 _ _ _ _ _)
   | (with_reducible exact ih1 _ _ _)
   | (with_reducible exact ih2 _ _ _ _ _)
   | (with_reducible exact ih3 _ _ _ _)
   | (with_reducible exact ih4 _ _ _ _)
   | (with_reducible exact ih5 _ _ _)
   | (with_reducible exact ih6 _ _ _)
   | (with_reducible exact ih7 _ _ _)
   | (with_reducible exact scriberef11_among.mono _ _ _)
   | (with_reducible exact scriberef11_pattern.mono _ _)
   | (with_reducible exact scriberef11_quoted.mono _ _ _ _ _)
   | (with_reducible exact scriberef11_run.mono _ _ _)
   | (with_reducible exact LeO.refl _)
   | (with_reducible exact LeO.none _)
   | (with_reducible refine LeO.ite ?_ ?_)
   | (with_reducible refine LeO.bind ?_ (fun _ => ?_))
   | exact ih0 _ _ _ _ _
   | exact ih1 _ _ _
   | exact ih2 _ _ _ _ _
   | exact ih3 _ _ _ _
   | exact ih4 _ _ _ _
   | exact ih5 _ _ _
   | exact ih6 _ _ _
   | exact ih7 _ _ _
   | exact scriberef11_among.mono _ _ _
   | exact scriberef11_pattern.mono _ _
   | exact scriberef11_quoted.mono _ _ _ _ _
   | exact scriberef11_run.mono _ _ _
   | exact LeO.none _
   | refine LeO.ite ?_ ?_
   | refine LeO.bind ?_ (fun _ => ?_)
  ·intro y0 y1 y2 y3 y4
   unfold scriberef11_one.j3
   repeat' first
   | (with_reducible exact ih0 _ _ _ _ _)
   | (with_reducible exact ih1 _ _ _)
   | (with_reducible exact ih2 _ _ _ _ _)
   | (with_reducible exact ih3 _ _ _ _)
   | (with_reducible exact ih4 _ _ _ _)
   | (with_reducible exact ih5 _ _ _)
   | (with_reducible exact ih6 _ _ _)
   | (with_reducible exact ih7 _ _ _)
   | (with_reducible exact scriberef11_among.mono _ _ _)
   | (with_reducible exact scriberef11_pattern.mono _ _)
   | (with_reducible exact scriberef11_quoted.mono _ _ _ _ _)
   | (with_reducible exact scriberef11_run.mono _ _ _)
   | (with_reducible exact LeO.refl _)
   | (with_reducible exact LeO.none _)
   | (with_reducible refine LeO.ite ?_ ?_)
   | (with_reducible refine LeO.bind ?_ (fun _ => ?_))
   | exact ih0 _ _ _ _ _
   | exact ih1 _ _ _
   | exact ih2 _ _ _ _ _
   | exact ih3 _ _ _ _
   | exact ih4 _ _ _ _
   | exact ih5 _ _ _
   | exact ih6 _ _ _
   | exact ih7 _ _ _
   | exact scriberef11_among.mono _ _ _
   | exact scriberef11_pattern.mono _ _
   | exact scriberef11_quoted.mono _ _ _ _ _
   | exact scriberef11_run.mono _ _ _
   | exact LeO.none _
   | refine LeO.ite ?_ ?_
   | refine LeO.bind ?_ (fun _ => ?_)
  ·intro y0 y1 y2 y3
   unfold scriberef11_one.j4
   repeat' first
   | (with_reducible exact ih0 _ _ _ _ _)
   | (with_reducible exact ih1 _ _ _)
   | (with_reducible exact ih2 _ _ _ _ _)
   | (with_reducible exact ih3 _ _ _ _)
   | (with_reducible exact ih4 _ _ _ _)
   | (with_reducible exact ih5 _ _ _)
   | (with_reducible exact ih6 _ _ _)
   | (with_reducible exact ih7 _ _ _)
   | (with_reducible exact scriberef11_among.mono _ _ _)
   | (with_reducible exact scriberef11_pattern.mono _ _)
   | (with_reducible exact scriberef11_quoted.mono _ _ _ _ _)
   | (with_reducible exact scriberef11_run.mono _ _ _)
   | (with_reducible exact LeO.refl _)
   | (with_reducible exact LeO.none _)
   | (with_reducible refine LeO.ite ?_ ?_)
   | (with_reducible refine LeO.bind ?_ (fun _ => ?_))
   | exact ih0 _ _ _ _ _
   | exact ih1 _ _ _
   | exact ih2 _ _ _ _ _
   | exact ih3 _ _ _ _
   | exact ih4 _ _ _ _
   | exact ih5 _ _ _
   | exact ih6 _ _ _
   | exact ih7 _ _ _
   | exact scriberef11_among.mono _ _ _
   | exact scriberef11_pattern.mono _ _
   | exact scriberef11_quoted.mono _ _ _ _ _
   | exact scriberef11_run.mono _ _ _
   | exact LeO.none _
   | refine LeO.ite ?_ ?_
   | refine LeO.bind ?_ (fun _ => ?_)
  ·intro y0 y1 y2 y3
   unfold scriberef11_one.j5
   repeat' first
   | (with_reducible exact ih0 _ _ _ _ _)
   | (with_reducible exact ih1 _ _ _)
   | (with_reducible exact ih2 _ _ _ _ _)
   | (with_reducible exact ih3 _ _ _ _)
   | (with_reducible exact ih4 _ _ _ _)
   | (with_reducible exact ih5 _ _ _)
   | (with_reducible exact ih6 _ _ _)
   | (with_reducible exact ih7 _ _ _)
   | (with_reducible exact scriberef11_among.mono _ _ _)
   | (with_reducible exact scriberef11_pattern.mono _ _)
   | (with_reducible exact scriberef11_quoted.mono _ _ _ _ _)
   | (with_reducible exact scriberef11_run.mono _ _ _)
   | (with_reducible exact LeO.refl _)
   | (with_reducible exact LeO.none _)
   | (with_reducible refine LeO.ite ?_ ?_)
   | (with_reducible refine LeO.bind ?_ (fun _ => ?_))
   | exact ih0 _ _ _ _ _
   | exact ih1 _ _ _
   | exact ih2 _ _ _ _ _
   | exact ih3 _ _ _ _
   | exact ih4 _ _ _ _
   | exact ih5 _ _ _
   | exact ih6 _ _ _
   | exact ih7 _ _ _
   | exact scriberef11_among.mono _ _ _
   | exact scriberef11_pattern.mono _ _
   | exact scriberef11_quoted.mono _ _ _ _ _
   | exact scriberef11_run.mono _ _ _
   | exact LeO.none _
   | refine LeO.ite ?_ ?_
   | refine LeO.bind ?_ (fun _ => ?_)
  ·intro y0 y1 y2
   unfold scriberef11_one.l0
   repeat' first
   | (with_reducible exact ih0 _ _ _ _ _)
   | (with_reducible exact ih1 _ _ _)
   | (with_reducible exact ih2 _ _ _ _ _)
   | (with_reducible exact ih3 _ _ _ _)
   | (with_reducible exact ih4 _ _ _ _)
   | (with_reducible exact ih5 _ _ _)
   | (with_reducible exact ih6 _ _ _)
   | (with_reducible exact ih7 _ _ _)
   | (with_reducible exact scriberef11_among.mono _ _ _)
   | (with_reducible exact scriberef11_pattern.mono _ _)
   | (with_reducible exact scriberef11_quoted.mono _ _ _ _ _)
   | (with_reducible exact scriberef11_run.mono _ _ _)
   | (with_reducible exact LeO.refl _)
   | (with_reducible exact LeO.none _)
   | (with_reducible refine LeO.ite ?_ ?_)
   | (with_reducible refine LeO.bind ?_ (fun _ => ?_))
   | exact ih0 _ _ _ _ _
   | exact ih1 _ _ _
   | exact ih2 _ _ _ _ _
   | exact ih3 _ _ _ _
   | exact ih4 _ _ _ _
   | exact ih5 _ _ _
   | exact ih6 _ _ _
   | exact ih7 _ _ _
   | exact scriberef11_among.mono _ _ _
   | exact scriberef11_pattern.mono _ _
   | exact scriberef11_quoted.mono _ _ _ _ _
   | exact scriberef11_run.mono _ _ _
   | exact LeO.none _
   | refine LeO.ite ?_ ?_
   | refine LeO.bind ?_ (fun _ => ?_)
  ·intro y0 y1 y2
   unfold scriberef11_one.j6
   repeat' first
   | (with_reducible exact ih0 _ _ _ _ _)
   | (with_reducible exact ih1 _ _ _)
   | (with_reducible exact ih2 _ _ _ _ _)
   | (with_reducible exact ih3 _ _ _ _)
   | (with_reducible exact ih4 _ _ _ _)
   | (with_reducible exact ih5 _ _ _)
   | (with_reducible exact ih6 _ _ _)
   | (with_reducible exact ih7 _ _ _)
   | (with_reducible exact scriberef11_among.mono _ _ _)
   | (with_reducible exact scriberef11_pattern.mono _ _)
   | (with_reducible exact scriberef11_quoted.mono _ _ _ _ _)
   | (with_reducible exact scriberef11_run.mono _ _ _)
   | (with_reducible exact LeO.refl _)
   | (with_reducible exact LeO.none _)
   | (with_reducible refine LeO.ite ?_ ?_)
   | (with_reducible refine LeO.bind ?_ (fun _ => ?_))
   | exact ih0 _ _ _ _ _
   | exact ih1 _ _ _
   | exact ih2 _ _ _ _ _
   | exact ih3 _ _ _ _
   | exact ih4 _ _ _ _
   | exact ih5 _ _ _
   | exact ih6 _ _ _
   | exact ih7 _ _ _
   | exact scriberef11_among.mono _ _ _
   | exact scriberef11_pattern.mono _ _
   | exact scriberef11_quoted.mono _ _ _ _ _
   | exact scriberef11_run.mono _ _ _
   | exact LeO.none _
   | refine LeO.ite ?_ ?_
   | refine LeO.bind ?_ (fun _ => ?_)
  ·intro y0 y1 y2
   unfold scriberef11_one.j7
   repeat' first
   | (with_reducible exact ih0 _ _ _ _ _)
   | (with_reducible exact ih1 _ _ _)
   | (with_reducible exact ih2 _ _ _ _ _)
   | (with_reducible exact ih3 _ _ _ _)
   | (with_reducible exact ih4 _ _ _ _)
   | (with_reducible exact ih5 _ _ _)
   | (with_reducible exact ih6 _ _ _)
   | (with_reducible exact ih7 _ _ _)
   | (with_reducible exact scriberef11_among.mono _ _ _)
   | (with_reducible exact scriberef11_pattern.mono _ _)
   | (with_reducible exact scriberef11_quoted.mono _ _ _ _ _)
   | (with_reducible exact scriberef11_run.mono _ _ _)
   | (with_reducible exact LeO.refl _)
   | (with_reducible exact LeO.none _)
   | (with_reducible refine LeO.ite ?_ ?_)
   | (with_reducible refine LeO.bind ?_ (fun _ => ?_))
   | exact ih0 _ _ _ _ _
   | exact ih1 _ _ _
   | exact ih2 _ _ _ _ _
   | exact ih3 _ _ _ _
   | exact ih4 _ _ _ _
   | exact ih5 _ _ _
   | exact ih6 _ _ _
   | exact ih7 _ _ _
   | exact scriberef11_among.mono _ _ _
   | exact scriberef11_pattern.mono _ _
   | exact scriberef11_quoted.mono _ _ _ _ _
   | exact scriberef11_run.mono _ _ _
   | exact LeO.none _
   | refine LeO.ite ?_ ?_
   | refine LeO.bind ?_ (fun _ => ?_)
theorem scriberef11_one.mono : ∀ a0 a1 a2 k, LeO (scriberef11_one.f k a0 a1 a2) (scriberef11_one.f (k + 1) a0 a1 a2) := by
 intro a0 a1 a2 k
 obtain ⟨ih0, ih1, ih2, ih3, ih4, ih5, ih6, ih7⟩ := scriberef11_one.mono_l k
 unfold scriberef11_one.f
 repeat' first
   | (with_reducible exact ih0 _ _ _ _ _)
   | (with_reducible exact ih1 _ _ _)
   | (with_reducible exact ih2 _ _ _ _ _)
   | (with_reducible exact ih3 _ _ _ _)
   | (with_reducible exact ih4 _ _ _ _)
   | (with_reducible exact ih5 _ _ _)
   | (with_reducible exact ih6 _ _ _)
   | (with_reducible exact ih7 _ _ _)
   | (with_reducible exact scriberef11_among.mono _ _ _)
   | (with_reducible exact scriberef11_pattern.mono _ _)
   | (with_reducible exact scriberef11_quoted.mono _ _ _ _ _)
   | (with_reducible exact scriberef11_run.mono _ _ _)
   | (with_reducible exact LeO.refl _)
   | (with_reducible exact LeO.none _)
   | (with_reducible refine LeO.ite ?_ ?_)
   | (with_reducible refine LeO.bind ?_ (fun _ => ?_))
   | exact ih0 _ _ _ _ _
   | exact ih1 _ _ _
   | exact ih2 _ _ _ _ _
   | exact ih3 _ _ _ _
   | exact ih4 _ _ _ _
   | exact ih5 _ _ _
   | exact ih6 _ _ _
   | exact ih7 _ _ _
   | exact scriberef11_among.mono _ _ _
   | exact scriberef11_pattern.mono _ _
   | exact scriberef11_quoted.mono _ _ _ _ _
   | exact scriberef11_run.mono _ _ _
   | exact LeO.none _
   | refine LeO.ite ?_ ?_
   | refine LeO.bind ?_ (fun _ => ?_)
set_option maxHeartbeats 8000000 in
set_option maxRecDepth 100000 in
theorem scriberef11_one.calls (k : Nat) (a0 : ByteArray) (a1 : Int) (A2 : Option Addr) (c2 : Nat) (l2 : List (S46)) (r1 : Int) (r2 : ByteArray) (r3 : Int) (r4 : Int) (w : World) (hr2 : Kd.C k46 w A2 l2.length l2) (hc2 : l2.length ≤ c2) (hT : TB w) (h : scriberef11_one.f k a0 a1 l2 = some (r1, r2, r3, r4)) :
  Calls Tryd.prog 19 #[.string a0, .int .i64 a1, .slice A2 l2.length c2] w fun e w' => e = .returned (.tuple #[.agg #[.int .i64 r1, .string r2, .int .i64 r3], .int .i64 r4]) ∧ Below w.heap.size w w' := by
 have hu46 := Tryd.underlying46
 have HR2 := Aside0.mk hr2
 have HC2 := Aside0.mk hc2
 clear hr2 hc2
 have HB := Aside0.mk (Below.refl w.heap.size w)
 have H : (if 0 ≤ a1 then (if a1 < (a0.size : Int) then (if (bt a0 a1) = 10 then (some (1, (⟨#[]⟩ : ByteArray), a1, wrap64 (a1 + 1))) else ((scriberef11_digit.f (bt a0 a1)).bind fun t312 => (if t312 = true then (scriberef11_one.j0 k a0 a1 l2 (bt a0 a1) true) else (if (bt a0 a1) = 46 then ((scriberef11_run.f k a0 (wrap64 (a1 + 1))).bind fun t313 => (scriberef11_one.j0 k a0 a1 l2 (bt a0 a1) (decide (t313 > 0)))) else (scriberef11_one.j0 k a0 a1 l2 (bt a0 a1) false))))) else (none)) else (none)) = some (r1, r2, r3, r4) := h
 clear h
 by_cases c4 : 0 ≤ a1
 ·rw [if_pos c4] at H
  have c4b0 : decide (0 ≤ a1) = true := decide_eq_true c4
  clear c4
  by_cases c5 : a1 < (a0.size : Int)
  ·rw [if_pos c5] at H
   have c5b0 : decide (a1 < (a0.size : Int)) = true := decide_eq_true c5
   clear c5
   by_cases c7 : (bt a0 a1) = 10
   ·rw [if_pos c7] at H
    have c7b0 : ((bt a0 a1) == 10) = true := beq_iff_eq.mpr c7
    have c7b1 : ((bt a0 a1) != 10) = false := bne_eq_false_iff_eq.mpr c7
    clear c7
    simp only [Option.some.injEq, Prod.mk.injEq] at H
    obtain ⟨rfl, rfl, rfl, rfl⟩ := H
    go_enter Tryd.func19, Tryd.ntmps19
    go_wp2_with (first | ((with_reducible refine gate_dst (N := 6) rfl ?_); refine box_event ?hg (N := 6) ?hd (cs := #[.int .i64 0, .string (⟨#[]⟩ : ByteArray), .int .i64 0]) (t := 46) ?hr ?_; (case hd => rfl); (case hg => rfl); (case hr => first | (go_simp; done) | (go_simp; rfl)); intro gb311 hg w8 hbox hb; have n0_ := Aside0.mk (below_step (by repeat (first | (with_reducible first | exact HB.out | apply below_alloc | apply pw_below_drewN | apply below_drew1) | exact HB.out)) hb); have n1_ := Aside0.mk (hbox); have n2_ := Aside0.mk ((by rw [hg]; exact (below_size (by repeat (first | (with_reducible first | exact HB.out | apply below_alloc | apply pw_below_drewN | apply below_drew1) | exact HB.out))) : w.heap.size ≤ gb311)); have n3_ := Aside0.mk ((by rw [hg]; exact (below_size (by repeat (first | (with_reducible first | exact HB.out | apply below_alloc | apply pw_below_drewN | apply below_drew1) | exact HB.out))) : w.heap.size ≤ gb311)); clear HB; have HB := n0_; have BK311 := n1_; have GW311 := n2_; have GE311 := n3_; clear n0_ n1_ n2_ n3_; clear hb hbox hg; have p6 : 0 ≤ (a1 : Int) := of_decide_eq_true (by first | (with_reducible assumption) | assumption); have q6 : a1 < (a0.size : Int) := of_decide_eq_true (by first | (with_reducible assumption) | assumption); have hx6 := bt_at a0 a1; replace p6 := eq_true p6; replace q6 := eq_true q6; have hcz9_0 : w8.cell? ⟨gb311, 0, none⟩ = some (.int .i64 0) := (blk_cell BK311.out 0).trans rfl; have hcz9_1 : w8.cell? ⟨gb311, 1, none⟩ = some (.string (⟨#[]⟩ : ByteArray)) := (blk_cell BK311.out 1).trans rfl; have hcz9_2 : w8.cell? ⟨gb311, 2, none⟩ = some (.int .i64 0) := (blk_cell BK311.out 2).trans rfl; have hfz9_0 := blk_frozen BK311.out 0; have hfz9_1 := blk_frozen BK311.out 1; have hfz9_2 := blk_frozen BK311.out 2))
    refine bodyPost_ret (results_ct rfl _ _ gb311 46 #[.int .i64 1, .string (⟨#[]⟩ : ByteArray), .int .i64 a1] (0, 0) _ rfl (by (with_reducible repeat (first | refine blk_drewN ?_ _ | refine blk_drew ?_ | refine blk_alloc ?_ _)); refine blk_put (cs := #[.int .i64 1, .string (⟨#[]⟩ : ByteArray), .int .i64 0]) ?_ 2 _ rfl; (with_reducible repeat (first | refine blk_drewN ?_ _ | refine blk_drew ?_ | refine blk_alloc ?_ _)); refine blk_put (cs := #[.int .i64 1, .string (⟨#[]⟩ : ByteArray), .int .i64 0]) ?_ 1 _ rfl; (with_reducible repeat (first | refine blk_drewN ?_ _ | refine blk_drew ?_ | refine blk_alloc ?_ _)); refine blk_put (cs := #[.int .i64 0, .string (⟨#[]⟩ : ByteArray), .int .i64 0]) ?_ 0 _ rfl; (with_reducible repeat (first | refine blk_drewN ?_ _ | refine blk_drew ?_ | refine blk_alloc ?_ _)); exact BK311.out) Tryd.underlying46 rfl (by kernel_rfl)) rfl ?_
    exact ⟨by first | rfl | (simp [errW_none, errW_some] <;> rfl) | (simp [errW_none, errW_some] <;> first | rfl | exact isEmpty_bne _) | (simp [*, errW_none, errW_some] <;> rfl), by repeat (first | (with_reducible first | exact HB.out | apply below_alloc | apply pw_below_drewN | apply below_drew1 | refine below_set ?_ GE311.out) | exact HB.out)⟩
   ·rw [if_neg c7] at H
    have c7b0 : ((bt a0 a1) == 10) = false := beq_eq_false_iff_ne.mpr c7
    have c7b1 : ((bt a0 a1) != 10) = true := bne_iff_ne.mpr c7
    have HC10 := Aside0.mk H
    clear H
    go_enter Tryd.func19, Tryd.ntmps19
    go_upto_region 4 with (first | ((with_reducible refine gate_dst (N := 6) rfl ?_); refine box_event ?hg (N := 6) ?hd (cs := #[.int .i64 0, .string (⟨#[]⟩ : ByteArray), .int .i64 0]) (t := 46) ?hr ?_; (case hd => rfl); (case hg => rfl); (case hr => first | (go_simp; done) | (go_simp; rfl)); intro gb311 hg w11 hbox hb; have n0_ := Aside0.mk (below_step (by repeat (first | (with_reducible first | exact HB.out | apply below_alloc | apply pw_below_drewN | apply below_drew1) | exact HB.out)) hb); have n1_ := Aside0.mk (hbox); have n2_ := Aside0.mk ((by rw [hg]; exact (below_size (by repeat (first | (with_reducible first | exact HB.out | apply below_alloc | apply pw_below_drewN | apply below_drew1) | exact HB.out))) : w.heap.size ≤ gb311)); have n3_ := Aside0.mk ((by rw [hg]; exact (below_size (by repeat (first | (with_reducible first | exact HB.out | apply below_alloc | apply pw_below_drewN | apply below_drew1) | exact HB.out))) : w.heap.size ≤ gb311)); clear HB; have HB := n0_; have BK311 := n1_; have GW311 := n2_; have GE311 := n3_; clear n0_ n1_ n2_ n3_; clear hb hbox hg; have p6 : 0 ≤ (a1 : Int) := of_decide_eq_true (by first | (with_reducible assumption) | assumption); have q6 : a1 < (a0.size : Int) := of_decide_eq_true (by first | (with_reducible assumption) | assumption); have hx6 := bt_at a0 a1; replace p6 := eq_true p6; replace q6 := eq_true q6))
    (try simp only [Act.put, List.setIfInBounds_toArray, List.set_cons_zero, List.set_cons_succ])
    go_cut [38] (fun v38 wc => ∃ (kq : Nat) (x38_9 : Bool), v38 = .bool x38_9 ∧ Aside0 (scriberef11_one.j0 kq a0 a1 l2 (bt a0 a1) x38_9 = some (r1, r2, r3, r4)) ∧ Aside0 (kq ≤ k) ∧ Aside0 (wc.heap[gb311]? = some (.cells #[.int .i64 0, .string (⟨#[]⟩ : ByteArray), .int .i64 0] 46 (0, 0))) ∧ Aside0 (Below w.heap.size w wc))
    case first =>
     have H := HC10.out
     clear HC10
     replace H := Option.bind_eq_some_iff.mp H
     obtain ⟨t312, A120, H⟩ := H
     replace H : (if t312 = true then (scriberef11_one.j0 k a0 a1 l2 (bt a0 a1) true) else (if (bt a0 a1) = 46 then ((scriberef11_run.f k a0 (wrap64 (a1 + 1))).bind fun t313 => (scriberef11_one.j0 k a0 a1 l2 (bt a0 a1) (decide (t313 > 0)))) else (scriberef11_one.j0 k a0 a1 l2 (bt a0 a1) false))) = some (r1, r2, r3, r4) := H
     have A12 := Aside0.mk A120
     clear A120
     by_cases c13 : t312 = true
     ·subst c13
      have H1 : (scriberef11_one.j0 k a0 a1 l2 (bt a0 a1) true) = some (r1, r2, r3, r4) := by rw [if_pos rfl] at H; exact H
      clear H
      have H := H1
      clear H1
      have H' := Aside0.mk H
      clear H
      go_wp2_with (first | ((with_reducible refine gate_callee (f := 35) rfl ?_); refine goesL_ (some 27) rfl rfl Tryd.func35 (by kernel_rfl) rfl #[.int .u8 (bt a0 a1)] rfl (by (try simp only [List.map_toArray, List.map_cons, List.map_nil]); first | done | rfl | (simp only [List.length_drop, List.length_take]; rfl)) ?_; (with_reducible refine (scriberef11_digit.calls (bt a0 a1) true _ ?side1 A12.out).mono ?_); (case side1 => exact TB.below hT (by repeat (first | (with_reducible first | exact HB.out | apply below_alloc | apply pw_below_drewN | apply below_drew1 | refine below_set ?_ GE311.out) | exact HB.out))); rintro e w' ⟨rfl, ⟨nd, rfl⟩⟩; refine ⟨_, rfl, ?_⟩))
      go_meet
      case rel => exact ⟨_, (true), (by first | rfl | (simp; done) | (simp [*]; done) | (simp; unfold wrap64; omega)), H', ⟨by first | omega | exact Nat.le_refl _⟩, ⟨by (with_reducible repeat (first | refine blk_drewN ?_ _ | refine blk_drew ?_ | refine blk_alloc ?_ _)); exact BK311.out⟩, ⟨by repeat (first | (with_reducible first | exact HB.out | apply below_alloc | apply pw_below_drewN | apply below_drew1 | refine below_set ?_ GE311.out) | exact HB.out)⟩⟩
     ·replace c13 := Bool.eq_false_iff.mpr c13
      subst c13
      have H1 : (if (bt a0 a1) = 46 then ((scriberef11_run.f k a0 (wrap64 (a1 + 1))).bind fun t313 => (scriberef11_one.j0 k a0 a1 l2 (bt a0 a1) (decide (t313 > 0)))) else (scriberef11_one.j0 k a0 a1 l2 (bt a0 a1) false)) = some (r1, r2, r3, r4) := by rw [if_neg (show ¬ (false = true) by decide)] at H; exact H
      clear H
      have H := H1
      clear H1
      by_cases c14 : (bt a0 a1) = 46
      ·rw [if_pos c14] at H
       have c14b0 : ((bt a0 a1) == 46) = true := beq_iff_eq.mpr c14
       have c14b1 : ((bt a0 a1) != 46) = false := bne_eq_false_iff_eq.mpr c14
       clear c14
       (first | rw [c14b0] | (simp only [i64_w, i32_w]; rw [c14b0]) | skip)
       replace H := Option.bind_eq_some_iff.mp H
       obtain ⟨t313, A150, H⟩ := H
       replace H : (scriberef11_one.j0 k a0 a1 l2 (bt a0 a1) (decide (t313 > 0))) = some (r1, r2, r3, r4) := H
       have A15 := Aside0.mk A150
       clear A150
       have H' := Aside0.mk H
       clear H
       go_wp2_with (first | ((with_reducible refine gate_callee (f := 35) rfl ?_); refine goesL_ (some 27) rfl rfl Tryd.func35 (by kernel_rfl) rfl #[.int .u8 (bt a0 a1)] rfl (by (try simp only [List.map_toArray, List.map_cons, List.map_nil]); first | done | rfl | (simp only [List.length_drop, List.length_take]; rfl)) ?_; (with_reducible refine (scriberef11_digit.calls (bt a0 a1) false _ ?side1 A12.out).mono ?_); (case side1 => exact TB.below hT (by repeat (first | (with_reducible first | exact HB.out | apply below_alloc | apply pw_below_drewN | apply below_drew1 | refine below_set ?_ GE311.out) | exact HB.out))); rintro e w' ⟨rfl, ⟨nd, rfl⟩⟩; refine ⟨_, rfl, ?_⟩) | (go_at_call 36; (with_reducible refine (scriberef11_run.calls k a0 (wrap64 (a1 + 1)) t313 _ ?side1 A15.out).mono ?_); (case side1 => exact TB.below hT (by repeat (first | (with_reducible first | exact HB.out | apply below_alloc | apply pw_below_drewN | apply below_drew1 | refine below_set ?_ GE311.out) | exact HB.out))); rintro e w' ⟨rfl, ⟨nd, rfl⟩⟩))
       go_meet
       case rel => exact ⟨_, (decide (t313 > 0)), (by first | rfl | (simp; done) | (simp [*]; done) | (simp; unfold wrap64; omega)), H', ⟨by first | omega | exact Nat.le_refl _⟩, ⟨by (with_reducible repeat (first | refine blk_drewN ?_ _ | refine blk_drew ?_ | refine blk_alloc ?_ _)); exact BK311.out⟩, ⟨by repeat (first | (with_reducible first | exact HB.out | apply below_alloc | apply pw_below_drewN | apply below_drew1 | refine below_set ?_ GE311.out) | exact HB.out)⟩⟩
      ·rw [if_neg c14] at H
       have c14b0 : ((bt a0 a1) == 46) = false := beq_eq_false_iff_ne.mpr c14
       have c14b1 : ((bt a0 a1) != 46) = true := bne_iff_ne.mpr c14
       (first | rw [c14b0] | (simp only [i64_w, i32_w]; rw [c14b0]) | skip)
       have H' := Aside0.mk H
       clear H
       go_wp2_with (first | ((with_reducible refine gate_callee (f := 35) rfl ?_); refine goesL_ (some 27) rfl rfl Tryd.func35 (by kernel_rfl) rfl #[.int .u8 (bt a0 a1)] rfl (by (try simp only [List.map_toArray, List.map_cons, List.map_nil]); first | done | rfl | (simp only [List.length_drop, List.length_take]; rfl)) ?_; (with_reducible refine (scriberef11_digit.calls (bt a0 a1) false _ ?side1 A12.out).mono ?_); (case side1 => exact TB.below hT (by repeat (first | (with_reducible first | exact HB.out | apply below_alloc | apply pw_below_drewN | apply below_drew1 | refine below_set ?_ GE311.out) | exact HB.out))); rintro e w' ⟨rfl, ⟨nd, rfl⟩⟩; refine ⟨_, rfl, ?_⟩))
       go_meet
       case rel => exact ⟨_, (false), (by first | rfl | (simp; done) | (simp [*]; done) | (simp; unfold wrap64; omega)), H', ⟨by first | omega | exact Nat.le_refl _⟩, ⟨by (with_reducible repeat (first | refine blk_drewN ?_ _ | refine blk_drew ?_ | refine blk_alloc ?_ _)); exact BK311.out⟩, ⟨by repeat (first | (with_reducible first | exact HB.out | apply below_alloc | apply pw_below_drewN | apply below_drew1 | refine below_set ?_ GE311.out) | exact HB.out)⟩⟩
    case rest =>
     clear HC10
     try clear c1
     try clear c2
     try clear p2
     try clear c3
     try clear c4
     try clear c4b0
     try clear c5
     try clear c5b0
     try clear p6
     try clear q6
     try clear hx6
     try clear c7
     try clear c7b0
     try clear c7b1
     try clear c13
     try clear c14
     try clear c14b0
     try clear c14b1
     try clear hcz9_0
     try clear hcz9_1
     try clear hcz9_2
     try clear hfz9_0
     try clear hfz9_1
     try clear hfz9_2
     try clear p6
     try clear q6
     obtain ⟨kq, x38_9, rfl, HA, HJ9, BK311, HB⟩ := hcut
     cases kq with
     | zero => exact absurd HA.out (by simp [scriberef11_one.j0])
     | succ kj9 =>
      have H := HA.out
      clear HA
      simp only [scriberef11_one.j0] at H
      by_cases c16 : x38_9 = true
      ·subst c16
       have H1 : ((scriberef11_run.f kj9 a0 a1).bind fun t314 => (if (wrap64 (a1 + t314)) < (a0.size : Int) then (if 0 ≤ (wrap64 (a1 + t314)) then (if (bt a0 (wrap64 (a1 + t314))) = 46 then ((scriberef11_run.f kj9 a0 (wrap64 ((wrap64 (a1 + t314)) + 1))).bind fun t315 => (if 0 ≤ a1 then (if a1 ≤ (wrap64 ((wrap64 (a1 + t314)) + (wrap64 (1 + t315)))) then (if (wrap64 ((wrap64 (a1 + t314)) + (wrap64 (1 + t315)))) ≤ (a0.size : Int) then (some (2, a0.extract (a1 : Int).toNat ((wrap64 ((wrap64 (a1 + t314)) + (wrap64 (1 + t315)))) : Int).toNat, a1, wrap64 ((wrap64 (a1 + t314)) + (wrap64 (1 + t315))))) else (none)) else (none)) else (none))) else (if 0 ≤ a1 then (if a1 ≤ (wrap64 (a1 + t314)) then (if (wrap64 (a1 + t314)) ≤ (a0.size : Int) then (some (2, a0.extract (a1 : Int).toNat ((wrap64 (a1 + t314)) : Int).toNat, a1, wrap64 (a1 + t314))) else (none)) else (none)) else (none))) else (none)) else (if 0 ≤ a1 then (if a1 ≤ (wrap64 (a1 + t314)) then (if (wrap64 (a1 + t314)) ≤ (a0.size : Int) then (some (2, a0.extract (a1 : Int).toNat ((wrap64 (a1 + t314)) : Int).toNat, a1, wrap64 (a1 + t314))) else (none)) else (none)) else (none)))) = some (r1, r2, r3, r4) := by rw [if_pos rfl] at H; exact H
       clear H
       have H := H1
       clear H1
       replace H := Option.bind_eq_some_iff.mp H
       obtain ⟨t314, A170, H⟩ := H
       replace H : (if (wrap64 (a1 + t314)) < (a0.size : Int) then (if 0 ≤ (wrap64 (a1 + t314)) then (if (bt a0 (wrap64 (a1 + t314))) = 46 then ((scriberef11_run.f kj9 a0 (wrap64 ((wrap64 (a1 + t314)) + 1))).bind fun t315 => (if 0 ≤ a1 then (if a1 ≤ (wrap64 ((wrap64 (a1 + t314)) + (wrap64 (1 + t315)))) then (if (wrap64 ((wrap64 (a1 + t314)) + (wrap64 (1 + t315)))) ≤ (a0.size : Int) then (some (2, a0.extract (a1 : Int).toNat ((wrap64 ((wrap64 (a1 + t314)) + (wrap64 (1 + t315)))) : Int).toNat, a1, wrap64 ((wrap64 (a1 + t314)) + (wrap64 (1 + t315))))) else (none)) else (none)) else (none))) else (if 0 ≤ a1 then (if a1 ≤ (wrap64 (a1 + t314)) then (if (wrap64 (a1 + t314)) ≤ (a0.size : Int) then (some (2, a0.extract (a1 : Int).toNat ((wrap64 (a1 + t314)) : Int).toNat, a1, wrap64 (a1 + t314))) else (none)) else (none)) else (none))) else (none)) else (if 0 ≤ a1 then (if a1 ≤ (wrap64 (a1 + t314)) then (if (wrap64 (a1 + t314)) ≤ (a0.size : Int) then (some (2, a0.extract (a1 : Int).toNat ((wrap64 (a1 + t314)) : Int).toNat, a1, wrap64 (a1 + t314))) else (none)) else (none)) else (none))) = some (r1, r2, r3, r4) := H
       have A17 := Aside0.mk A170
       clear A170
       by_cases c18 : (wrap64 (a1 + t314)) < (a0.size : Int)
       ·rw [if_pos c18] at H
        have c18b0 : decide ((wrap64 (a1 + t314)) < (a0.size : Int)) = true := decide_eq_true c18
        clear c18
        obtain ⟨ji19, hji19⟩ : ∃ j_ : Int, (wrap64 (a1 + t314)) = j_ := ⟨_, rfl⟩
        replace H : (if 0 ≤ (ji19) then (if (bt a0 (ji19)) = 46 then ((scriberef11_run.f kj9 a0 (wrap64 ((ji19) + 1))).bind fun t315 => (if 0 ≤ a1 then (if a1 ≤ (wrap64 ((ji19) + (wrap64 (1 + t315)))) then (if (wrap64 ((ji19) + (wrap64 (1 + t315)))) ≤ (a0.size : Int) then (some (2, a0.extract (a1 : Int).toNat ((wrap64 ((ji19) + (wrap64 (1 + t315)))) : Int).toNat, a1, wrap64 ((ji19) + (wrap64 (1 + t315))))) else (none)) else (none)) else (none))) else (if 0 ≤ a1 then (if a1 ≤ (ji19) then (if (ji19) ≤ (a0.size : Int) then (some (2, a0.extract (a1 : Int).toNat ((ji19) : Int).toNat, a1, ji19)) else (none)) else (none)) else (none))) else (none)) = some (r1, r2, r3, r4) := by first | (rw [hji19] at H; exact H) | (simp only [hji19] at H ⊢; exact H)
        (try rw [hji19] at c18b0)
        (try rw [hji19] at A17)
        have hji19w : (IntKind.i64.wrap (a1 + t314)) = ji19 := (i64_w _).trans hji19
        by_cases c20 : 0 ≤ (ji19)
        ·rw [if_pos c20] at H
         have c20b0 : decide (0 ≤ (ji19)) = true := decide_eq_true c20
         clear c20
         by_cases c22 : (bt a0 (ji19)) = 46
         ·rw [if_pos c22] at H
          have c22b0 : ((bt a0 (ji19)) == 46) = true := beq_iff_eq.mpr c22
          have c22b1 : ((bt a0 (ji19)) != 46) = false := bne_eq_false_iff_eq.mpr c22
          clear c22
          replace H := Option.bind_eq_some_iff.mp H
          obtain ⟨t315, A230, H⟩ := H
          replace H : (if 0 ≤ a1 then (if a1 ≤ (wrap64 ((ji19) + (wrap64 (1 + t315)))) then (if (wrap64 ((ji19) + (wrap64 (1 + t315)))) ≤ (a0.size : Int) then (some (2, a0.extract (a1 : Int).toNat ((wrap64 ((ji19) + (wrap64 (1 + t315)))) : Int).toNat, a1, wrap64 ((ji19) + (wrap64 (1 + t315))))) else (none)) else (none)) else (none)) = some (r1, r2, r3, r4) := H
          have A23 := Aside0.mk A230
          clear A230
          by_cases c24 : 0 ≤ a1
          ·rw [if_pos c24] at H
           have c24b0 := eq_true c24
           have c24b1 : decide (0 ≤ a1) = true := decide_eq_true c24
           clear c24
           by_cases c25 : a1 ≤ (wrap64 ((ji19) + (wrap64 (1 + t315))))
           ·rw [if_pos c25] at H
            have c25b0 := eq_true c25
            have c25b1 : decide (a1 ≤ (wrap64 ((ji19) + (wrap64 (1 + t315))))) = true := decide_eq_true c25
            by_cases c26 : (wrap64 ((ji19) + (wrap64 (1 + t315)))) ≤ (a0.size : Int)
            ·rw [if_pos c26] at H
             have c26b0 := eq_true c26
             have c26b1 : decide ((wrap64 ((ji19) + (wrap64 (1 + t315)))) ≤ (a0.size : Int)) = true := decide_eq_true c26
             simp only [Option.some.injEq, Prod.mk.injEq] at H
             obtain ⟨rfl, rfl, rfl, rfl⟩ := H
             go_wp2_with (first | ((with_reducible refine gate_callee (f := 36) rfl ?_); refine goesL_ (some 42) rfl rfl Tryd.func36 (by kernel_rfl) rfl #[.string a0, .int .i64 a1] rfl (by (try simp only [List.map_toArray, List.map_cons, List.map_nil]); first | done | rfl | (simp only [List.length_drop, List.length_take]; rfl)) ?_; (with_reducible refine (scriberef11_run.calls kj9 a0 a1 t314 _ ?side1 A17.out).mono ?_); (case side1 => exact TB.below hT (by repeat (first | (with_reducible first | exact HB.out | apply below_alloc | apply pw_below_drewN | apply below_drew1 | refine below_set ?_ GE311.out) | exact HB.out))); rintro e w' ⟨rfl, ⟨nd, rfl⟩⟩; refine ⟨_, rfl, ?_⟩; (try (rw [drewN_self wc]; generalize hq_ : World.drewN wc _ = wc; have n0_ : Aside0 (wc.heap[gb311]? = some (.cells #[.int .i64 0, .string (⟨#[]⟩ : ByteArray), .int .i64 0] 46 (0, 0))) := ⟨by rw [← hq_]; exact (by (with_reducible repeat (first | refine blk_drewN ?_ _ | refine blk_drew ?_ | refine blk_alloc ?_ _)); exact BK311.out)⟩; have n1_ : Aside0 (Below w.heap.size w wc) := ⟨by rw [← hq_]; exact (by repeat (first | (with_reducible first | exact HB.out | apply below_alloc | apply pw_below_drewN | apply below_drew1 | refine below_set ?_ GE311.out) | exact HB.out))⟩; clear BK311 HB hq_; have BK311 := n0_; have HB := n1_; clear n0_ n1_)); have p21 : 0 ≤ ((ji19) : Int) := of_decide_eq_true (by first | (with_reducible assumption) | assumption); have q21 : (ji19) < (a0.size : Int) := of_decide_eq_true (by first | (with_reducible assumption) | assumption); have hx21 := bt_at a0 (ji19); replace p21 := eq_true p21; replace q21 := eq_true q21) | ((with_reducible refine gate_callee (f := 36) rfl ?_); refine goesL_ (some 58) rfl rfl Tryd.func36 (by kernel_rfl) rfl #[.string a0, .int .i64 (wrap64 ((ji19) + 1))] rfl (by (try simp only [List.map_toArray, List.map_cons, List.map_nil]); first | done | (simp only [hji19]; rfl) | rfl | (simp only [List.length_drop, List.length_take]; rfl)) ?_; (with_reducible refine (scriberef11_run.calls kj9 a0 (wrap64 ((ji19) + 1)) t315 _ ?side1 A23.out).mono ?_); (case side1 => exact TB.below hT (by repeat (first | (with_reducible first | exact HB.out | apply below_alloc | apply pw_below_drewN | apply below_drew1 | refine below_set ?_ GE311.out) | exact HB.out))); rintro e w' ⟨rfl, ⟨nd, rfl⟩⟩; refine ⟨_, rfl, ?_⟩; (try (rw [drewN_self wc]; generalize hq_ : World.drewN wc _ = wc; have n0_ : Aside0 (wc.heap[gb311]? = some (.cells #[.int .i64 0, .string (⟨#[]⟩ : ByteArray), .int .i64 0] 46 (0, 0))) := ⟨by rw [← hq_]; exact (by (with_reducible repeat (first | refine blk_drewN ?_ _ | refine blk_drew ?_ | refine blk_alloc ?_ _)); exact BK311.out)⟩; have n1_ : Aside0 (Below w.heap.size w wc) := ⟨by rw [← hq_]; exact (by repeat (first | (with_reducible first | exact HB.out | apply below_alloc | apply pw_below_drewN | apply below_drew1 | refine below_set ?_ GE311.out) | exact HB.out))⟩; clear BK311 HB hq_; have BK311 := n0_; have HB := n1_; clear n0_ n1_)); have hcz27_0 : wc.cell? ⟨gb311, 0, none⟩ = some (.int .i64 0) := (blk_cell BK311.out 0).trans rfl; have hcz27_1 : wc.cell? ⟨gb311, 1, none⟩ = some (.string (⟨#[]⟩ : ByteArray)) := (blk_cell BK311.out 1).trans rfl; have hcz27_2 : wc.cell? ⟨gb311, 2, none⟩ = some (.int .i64 0) := (blk_cell BK311.out 2).trans rfl; have hfz27_0 := blk_frozen BK311.out 0; have hfz27_1 := blk_frozen BK311.out 1; have hfz27_2 := blk_frozen BK311.out 2))
             refine bodyPost_ret (results_ct rfl _ _ gb311 46 #[.int .i64 2, .string (a0.extract (a1 : Int).toNat ((wrap64 ((ji19) + (wrap64 (1 + t315)))) : Int).toNat), .int .i64 a1] (0, 0) _ rfl (by (with_reducible repeat (first | refine blk_drewN ?_ _ | refine blk_drew ?_ | refine blk_alloc ?_ _)); refine blk_put (cs := #[.int .i64 2, .string (a0.extract (a1 : Int).toNat ((wrap64 ((ji19) + (wrap64 (1 + t315)))) : Int).toNat), .int .i64 0]) ?_ 2 _ rfl; (with_reducible repeat (first | refine blk_drewN ?_ _ | refine blk_drew ?_ | refine blk_alloc ?_ _)); refine blk_put (cs := #[.int .i64 2, .string (⟨#[]⟩ : ByteArray), .int .i64 0]) ?_ 1 _ rfl; (with_reducible repeat (first | refine blk_drewN ?_ _ | refine blk_drew ?_ | refine blk_alloc ?_ _)); refine blk_put (cs := #[.int .i64 0, .string (⟨#[]⟩ : ByteArray), .int .i64 0]) ?_ 0 _ rfl; (with_reducible repeat (first | refine blk_drewN ?_ _ | refine blk_drew ?_ | refine blk_alloc ?_ _)); exact BK311.out) Tryd.underlying46 rfl (by kernel_rfl)) rfl ?_
             exact ⟨by first | rfl | (simp [errW_none, errW_some] <;> rfl) | (simp [errW_none, errW_some] <;> first | rfl | exact isEmpty_bne _) | (simp only [← hji19]; first | rfl | (simp [errW_none, errW_some] <;> rfl)) | (simp [*, errW_none, errW_some] <;> rfl), by repeat (first | (with_reducible first | exact HB.out | apply below_alloc | apply pw_below_drewN | apply below_drew1 | refine below_set ?_ GE311.out) | exact HB.out)⟩
            ·rw [if_neg c26] at H
             exact absurd H (by simp)
           ·rw [if_neg c25] at H
            exact absurd H (by simp)
          ·rw [if_neg c24] at H
           exact absurd H (by simp)
         ·rw [if_neg c22] at H
          have c22b0 : ((bt a0 (ji19)) == 46) = false := beq_eq_false_iff_ne.mpr c22
          have c22b1 : ((bt a0 (ji19)) != 46) = true := bne_iff_ne.mpr c22
          by_cases c28 : 0 ≤ a1
          ·rw [if_pos c28] at H
           have c28b0 := eq_true c28
           have c28b1 : decide (0 ≤ a1) = true := decide_eq_true c28
           clear c28
           by_cases c29 : a1 ≤ (ji19)
           ·rw [if_pos c29] at H
            have c29b0 := eq_true c29
            have c29b1 : decide (a1 ≤ (ji19)) = true := decide_eq_true c29
            clear c29
            by_cases c30 : (ji19) ≤ (a0.size : Int)
            ·rw [if_pos c30] at H
             have c30b0 := eq_true c30
             have c30b1 : decide ((ji19) ≤ (a0.size : Int)) = true := decide_eq_true c30
             clear c30
             simp only [Option.some.injEq, Prod.mk.injEq] at H
             obtain ⟨rfl, rfl, rfl, rfl⟩ := H
             go_wp2_with (first | ((with_reducible refine gate_callee (f := 36) rfl ?_); refine goesL_ (some 42) rfl rfl Tryd.func36 (by kernel_rfl) rfl #[.string a0, .int .i64 a1] rfl (by (try simp only [List.map_toArray, List.map_cons, List.map_nil]); first | done | rfl | (simp only [List.length_drop, List.length_take]; rfl)) ?_; (with_reducible refine (scriberef11_run.calls kj9 a0 a1 t314 _ ?side1 A17.out).mono ?_); (case side1 => exact TB.below hT (by repeat (first | (with_reducible first | exact HB.out | apply below_alloc | apply pw_below_drewN | apply below_drew1 | refine below_set ?_ GE311.out) | exact HB.out))); rintro e w' ⟨rfl, ⟨nd, rfl⟩⟩; refine ⟨_, rfl, ?_⟩; (try (rw [drewN_self wc]; generalize hq_ : World.drewN wc _ = wc; have n0_ : Aside0 (wc.heap[gb311]? = some (.cells #[.int .i64 0, .string (⟨#[]⟩ : ByteArray), .int .i64 0] 46 (0, 0))) := ⟨by rw [← hq_]; exact (by (with_reducible repeat (first | refine blk_drewN ?_ _ | refine blk_drew ?_ | refine blk_alloc ?_ _)); exact BK311.out)⟩; have n1_ : Aside0 (Below w.heap.size w wc) := ⟨by rw [← hq_]; exact (by repeat (first | (with_reducible first | exact HB.out | apply below_alloc | apply pw_below_drewN | apply below_drew1 | refine below_set ?_ GE311.out) | exact HB.out))⟩; clear BK311 HB hq_; have BK311 := n0_; have HB := n1_; clear n0_ n1_)); have p21 : 0 ≤ ((ji19) : Int) := of_decide_eq_true (by first | (with_reducible assumption) | assumption); have q21 : (ji19) < (a0.size : Int) := of_decide_eq_true (by first | (with_reducible assumption) | assumption); have hx21 := bt_at a0 (ji19); replace p21 := eq_true p21; replace q21 := eq_true q21; have hcz31_0 : wc.cell? ⟨gb311, 0, none⟩ = some (.int .i64 0) := (blk_cell BK311.out 0).trans rfl; have hcz31_1 : wc.cell? ⟨gb311, 1, none⟩ = some (.string (⟨#[]⟩ : ByteArray)) := (blk_cell BK311.out 1).trans rfl; have hcz31_2 : wc.cell? ⟨gb311, 2, none⟩ = some (.int .i64 0) := (blk_cell BK311.out 2).trans rfl; have hfz31_0 := blk_frozen BK311.out 0; have hfz31_1 := blk_frozen BK311.out 1; have hfz31_2 := blk_frozen BK311.out 2))
             refine bodyPost_ret (results_ct rfl _ _ gb311 46 #[.int .i64 2, .string (a0.extract (a1 : Int).toNat ((ji19) : Int).toNat), .int .i64 a1] (0, 0) _ rfl (by (with_reducible repeat (first | refine blk_drewN ?_ _ | refine blk_drew ?_ | refine blk_alloc ?_ _)); refine blk_put (cs := #[.int .i64 2, .string (a0.extract (a1 : Int).toNat ((ji19) : Int).toNat), .int .i64 0]) ?_ 2 _ rfl; (with_reducible repeat (first | refine blk_drewN ?_ _ | refine blk_drew ?_ | refine blk_alloc ?_ _)); refine blk_put (cs := #[.int .i64 2, .string (⟨#[]⟩ : ByteArray), .int .i64 0]) ?_ 1 _ rfl; (with_reducible repeat (first | refine blk_drewN ?_ _ | refine blk_drew ?_ | refine blk_alloc ?_ _)); refine blk_put (cs := #[.int .i64 0, .string (⟨#[]⟩ : ByteArray), .int .i64 0]) ?_ 0 _ rfl; (with_reducible repeat (first | refine blk_drewN ?_ _ | refine blk_drew ?_ | refine blk_alloc ?_ _)); exact BK311.out) Tryd.underlying46 rfl (by kernel_rfl)) rfl ?_
             exact ⟨by first | rfl | (simp [errW_none, errW_some] <;> rfl) | (simp [errW_none, errW_some] <;> first | rfl | exact isEmpty_bne _) | (simp only [← hji19]; first | rfl | (simp [errW_none, errW_some] <;> rfl)) | (simp [*, errW_none, errW_some] <;> rfl), by repeat (first | (with_reducible first | exact HB.out | apply below_alloc | apply pw_below_drewN | apply below_drew1 | refine below_set ?_ GE311.out) | exact HB.out)⟩
            ·rw [if_neg c30] at H
             exact absurd H (by simp)
           ·rw [if_neg c29] at H
            exact absurd H (by simp)
          ·rw [if_neg c28] at H
           exact absurd H (by simp)
        ·rw [if_neg c20] at H
         exact absurd H (by simp)
       ·rw [if_neg c18] at H
        have c18b0 : decide ((wrap64 (a1 + t314)) < (a0.size : Int)) = false := decide_eq_false c18
        clear c18
        by_cases c32 : 0 ≤ a1
        ·rw [if_pos c32] at H
         have c32b0 := eq_true c32
         have c32b1 : decide (0 ≤ a1) = true := decide_eq_true c32
         clear c32
         by_cases c33 : a1 ≤ (wrap64 (a1 + t314))
         ·rw [if_pos c33] at H
          have c33b0 := eq_true c33
          have c33b1 : decide (a1 ≤ (wrap64 (a1 + t314))) = true := decide_eq_true c33
          by_cases c34 : (wrap64 (a1 + t314)) ≤ (a0.size : Int)
          ·rw [if_pos c34] at H
           have c34b0 := eq_true c34
           have c34b1 : decide ((wrap64 (a1 + t314)) ≤ (a0.size : Int)) = true := decide_eq_true c34
           simp only [Option.some.injEq, Prod.mk.injEq] at H
           obtain ⟨rfl, rfl, rfl, rfl⟩ := H
           go_wp2_with (first | ((with_reducible refine gate_callee (f := 36) rfl ?_); refine goesL_ (some 42) rfl rfl Tryd.func36 (by kernel_rfl) rfl #[.string a0, .int .i64 a1] rfl (by (try simp only [List.map_toArray, List.map_cons, List.map_nil]); first | done | rfl | (simp only [List.length_drop, List.length_take]; rfl)) ?_; (with_reducible refine (scriberef11_run.calls kj9 a0 a1 t314 _ ?side1 A17.out).mono ?_); (case side1 => exact TB.below hT (by repeat (first | (with_reducible first | exact HB.out | apply below_alloc | apply pw_below_drewN | apply below_drew1 | refine below_set ?_ GE311.out) | exact HB.out))); rintro e w' ⟨rfl, ⟨nd, rfl⟩⟩; refine ⟨_, rfl, ?_⟩; (try (rw [drewN_self wc]; generalize hq_ : World.drewN wc _ = wc; have n0_ : Aside0 (wc.heap[gb311]? = some (.cells #[.int .i64 0, .string (⟨#[]⟩ : ByteArray), .int .i64 0] 46 (0, 0))) := ⟨by rw [← hq_]; exact (by (with_reducible repeat (first | refine blk_drewN ?_ _ | refine blk_drew ?_ | refine blk_alloc ?_ _)); exact BK311.out)⟩; have n1_ : Aside0 (Below w.heap.size w wc) := ⟨by rw [← hq_]; exact (by repeat (first | (with_reducible first | exact HB.out | apply below_alloc | apply pw_below_drewN | apply below_drew1 | refine below_set ?_ GE311.out) | exact HB.out))⟩; clear BK311 HB hq_; have BK311 := n0_; have HB := n1_; clear n0_ n1_)); have hcz35_0 : wc.cell? ⟨gb311, 0, none⟩ = some (.int .i64 0) := (blk_cell BK311.out 0).trans rfl; have hcz35_1 : wc.cell? ⟨gb311, 1, none⟩ = some (.string (⟨#[]⟩ : ByteArray)) := (blk_cell BK311.out 1).trans rfl; have hcz35_2 : wc.cell? ⟨gb311, 2, none⟩ = some (.int .i64 0) := (blk_cell BK311.out 2).trans rfl; have hfz35_0 := blk_frozen BK311.out 0; have hfz35_1 := blk_frozen BK311.out 1; have hfz35_2 := blk_frozen BK311.out 2))
           refine bodyPost_ret (results_ct rfl _ _ gb311 46 #[.int .i64 2, .string (a0.extract (a1 : Int).toNat ((wrap64 (a1 + t314)) : Int).toNat), .int .i64 a1] (0, 0) _ rfl (by (with_reducible repeat (first | refine blk_drewN ?_ _ | refine blk_drew ?_ | refine blk_alloc ?_ _)); refine blk_put (cs := #[.int .i64 2, .string (a0.extract (a1 : Int).toNat ((wrap64 (a1 + t314)) : Int).toNat), .int .i64 0]) ?_ 2 _ rfl; (with_reducible repeat (first | refine blk_drewN ?_ _ | refine blk_drew ?_ | refine blk_alloc ?_ _)); refine blk_put (cs := #[.int .i64 2, .string (⟨#[]⟩ : ByteArray), .int .i64 0]) ?_ 1 _ rfl; (with_reducible repeat (first | refine blk_drewN ?_ _ | refine blk_drew ?_ | refine blk_alloc ?_ _)); refine blk_put (cs := #[.int .i64 0, .string (⟨#[]⟩ : ByteArray), .int .i64 0]) ?_ 0 _ rfl; (with_reducible repeat (first | refine blk_drewN ?_ _ | refine blk_drew ?_ | refine blk_alloc ?_ _)); exact BK311.out) Tryd.underlying46 rfl (by kernel_rfl)) rfl ?_
           exact ⟨by first | rfl | (simp [errW_none, errW_some] <;> rfl) | (simp [errW_none, errW_some] <;> first | rfl | exact isEmpty_bne _) | (simp [*, errW_none, errW_some] <;> rfl), by repeat (first | (with_reducible first | exact HB.out | apply below_alloc | apply pw_below_drewN | apply below_drew1 | refine below_set ?_ GE311.out) | exact HB.out)⟩
          ·rw [if_neg c34] at H
           exact absurd H (by simp)
         ·rw [if_neg c33] at H
          exact absurd H (by simp)
        ·rw [if_neg c32] at H
         exact absurd H (by simp)
      ·replace c16 := Bool.eq_false_iff.mpr c16
       subst c16
       have H1 : ((scriberef11_letter.f (bt a0 a1)).bind fun t316 => (if t316 = true then (scriberef11_one.l0 kj9 a0 a1 a1) else (if (bt a0 a1) = 34 then ((scriberef11_quoted.f kj9 a0 a1 34 false).bind fun bt323 => (some (3, bt323.1, a1, bt323.2))) else (if (bt a0 a1) = 47 then ((scriberef11_pattern.f kj9 l2).bind fun t325 => (scriberef11_one.j6 kj9 a0 a1 t325)) else (scriberef11_one.j6 kj9 a0 a1 false))))) = some (r1, r2, r3, r4) := by rw [if_neg (show ¬ (false = true) by decide)] at H; exact H
       clear H
       have H := H1
       clear H1
       replace H := Option.bind_eq_some_iff.mp H
       obtain ⟨t316, A360, H⟩ := H
       replace H : (if t316 = true then (scriberef11_one.l0 kj9 a0 a1 a1) else (if (bt a0 a1) = 34 then ((scriberef11_quoted.f kj9 a0 a1 34 false).bind fun bt323 => (some (3, bt323.1, a1, bt323.2))) else (if (bt a0 a1) = 47 then ((scriberef11_pattern.f kj9 l2).bind fun t325 => (scriberef11_one.j6 kj9 a0 a1 t325)) else (scriberef11_one.j6 kj9 a0 a1 false)))) = some (r1, r2, r3, r4) := H
       have A36 := Aside0.mk A360
       clear A360
       by_cases c37 : t316 = true
       ·subst c37
        have H1 : (scriberef11_one.l0 kj9 a0 a1 a1) = some (r1, r2, r3, r4) := by rw [if_pos rfl] at H; exact H
        clear H
        have H := H1
        clear H1
        have HC38 := Aside0.mk H
        clear H
        go_upto_block 0 with (first | ((with_reducible refine gate_callee (f := 37) rfl ?_); refine goesL_ (some 69) rfl rfl Tryd.func37 (by kernel_rfl) rfl #[.int .u8 (bt a0 a1)] rfl (by (try simp only [List.map_toArray, List.map_cons, List.map_nil]); first | done | rfl | (simp only [List.length_drop, List.length_take]; rfl)) ?_; (with_reducible refine (scriberef11_letter.calls (bt a0 a1) true _ ?side1 A36.out).mono ?_); (case side1 => exact TB.below hT (by repeat (first | (with_reducible first | exact HB.out | apply below_alloc | apply pw_below_drewN | apply below_drew1 | refine below_set ?_ GE311.out) | exact HB.out))); rintro e w' ⟨rfl, ⟨nd, rfl⟩⟩; refine ⟨_, rfl, ?_⟩))
        (try simp only [Act.put, List.setIfInBounds_toArray, List.set_cons_zero, List.set_cons_succ])
        go_cut [10] (fun v10 wc => ∃ (kq : Nat) (x10_37 : Int), v10 = .int .i64 x10_37 ∧ Aside0 (scriberef11_one.j2 kq a0 a1 x10_37 = some (r1, r2, r3, r4)) ∧ Aside0 (kq ≤ kj9) ∧ Aside0 (wc.heap[gb311]? = some (.cells #[.int .i64 0, .string (⟨#[]⟩ : ByteArray), .int .i64 0] 46 (0, 0))) ∧ Aside0 (Below w.heap.size w wc))
        case first =>
         have H := HC38.out
         clear HC38
         have H' := Aside0.mk H
         clear H
         go_wp2
         go_loopg [10] kj9 (fun kq v10 w' => ∃ (x10_2 : Int), v10 = .int .i64 x10_2 ∧ Aside0 (scriberef11_one.l0 kq a0 a1 x10_2 = some (r1, r2, r3, r4)) ∧ Aside0 (kq ≤ kj9) ∧ Aside0 (w'.heap[gb311]? = some (.cells #[.int .i64 0, .string (⟨#[]⟩ : ByteArray), .int .i64 0] 46 (0, 0))) ∧ Aside0 (Below w.heap.size w w'))
         case atStart => exact ⟨(a1), (by first | rfl | (simp; done) | (simp [*]; done) | (simp; unfold wrap64; omega)), H', ⟨Nat.le_refl _⟩, ⟨by (with_reducible repeat (first | refine blk_drewN ?_ _ | refine blk_drew ?_ | refine blk_alloc ?_ _)); exact BK311.out⟩, ⟨by repeat (first | (with_reducible first | exact HB.out | apply below_alloc | apply pw_below_drewN | apply below_drew1 | refine below_set ?_ GE311.out) | exact HB.out)⟩⟩
         case round =>
          clear H'
          try clear c1
          try clear c2
          try clear p2
          try clear q2
          try clear hx2
          try clear c3
          try clear c4
          try clear c4b0
          try clear c5
          try clear c5b0
          try clear p6
          try clear q6
          try clear hx6
          try clear c7
          try clear c7b0
          try clear c7b1
          try clear c13
          try clear c14
          try clear c14b0
          try clear c14b1
          try clear c16
          try clear c18
          try clear c18b0
          try clear c19
          try clear c20
          try clear c20b0
          try clear p21
          try clear q21
          try clear hx21
          try clear c22
          try clear c22b0
          try clear c22b1
          try clear c24
          try clear c24b0
          try clear c24b1
          try clear c25
          try clear c25b0
          try clear c25b1
          try clear c26
          try clear c26b0
          try clear c26b1
          try clear c28
          try clear c28b0
          try clear c28b1
          try clear c29
          try clear c29b0
          try clear c29b1
          try clear c30
          try clear c30b0
          try clear c30b1
          try clear c32
          try clear c32b0
          try clear c32b1
          try clear c33
          try clear c33b0
          try clear c33b1
          try clear c34
          try clear c34b0
          try clear c34b1
          try clear c35
          try clear c36
          try clear c37
          try clear hcz27_0
          try clear hcz27_1
          try clear hcz27_2
          try clear hcz31_0
          try clear hcz31_1
          try clear hcz31_2
          try clear hcz35_0
          try clear hcz35_1
          try clear hcz35_2
          try clear hcz9_0
          try clear hcz9_1
          try clear hcz9_2
          try clear hfz27_0
          try clear hfz27_1
          try clear hfz27_2
          try clear hfz31_0
          try clear hfz31_1
          try clear hfz31_2
          try clear hfz35_0
          try clear hfz35_1
          try clear hfz35_2
          try clear hfz9_0
          try clear hfz9_1
          try clear hfz9_2
          try clear p2
          try clear p21
          try clear p6
          try clear q21
          try clear q6
          obtain ⟨x10_2, rfl, HA, HK2, BK311, HB⟩ := hrel
          cases gk with
          | zero => exact absurd HA.out (by simp [scriberef11_one.l0])
          | succ k2 =>
           have H := HA.out
           clear HA
           simp only [scriberef11_one.l0] at H
           by_cases c39 : x10_2 < (a0.size : Int)
           ·rw [if_pos c39] at H
            have c39b0 : decide (x10_2 < (a0.size : Int)) = true := decide_eq_true c39
            clear c39
            (first | rw [c39b0] | (simp only [i64_w, i32_w]; rw [c39b0]) | skip)
            by_cases c40 : 0 ≤ x10_2
            ·rw [if_pos c40] at H
             have c40b0 : decide (0 ≤ x10_2) = true := decide_eq_true c40
             clear c40
             replace H := Option.bind_eq_some_iff.mp H
             obtain ⟨t317, A420, H⟩ := H
             replace H : (if t317 = true then (scriberef11_one.l0 k2 a0 a1 (wrap64 (x10_2 + 1))) else ((scriberef11_digit.f (bt a0 x10_2)).bind fun t318 => (if t318 = true then (scriberef11_one.l0 k2 a0 a1 (wrap64 (x10_2 + 1))) else (scriberef11_one.j2 k2 a0 a1 x10_2)))) = some (r1, r2, r3, r4) := H
             have A42 := Aside0.mk A420
             clear A420
             by_cases c43 : t317 = true
             ·subst c43
              have H1 : (scriberef11_one.l0 k2 a0 a1 (wrap64 (x10_2 + 1))) = some (r1, r2, r3, r4) := by rw [if_pos rfl] at H; exact H
              clear H
              have H := H1
              clear H1
              have H' := Aside0.mk H
              clear H
              have p41 : 0 ≤ (x10_2 : Int) := of_decide_eq_true (by first | (with_reducible assumption) | assumption)
              have q41 : x10_2 < (a0.size : Int) := of_decide_eq_true (by first | (with_reducible assumption) | assumption)
              have hx41 := bt_at a0 x10_2
              replace p41 := eq_true p41
              replace q41 := eq_true q41
              go_wp2_with (first | (go_at_call 37; (with_reducible refine (scriberef11_letter.calls (bt a0 x10_2) true _ ?side1 A42.out).mono ?_); (case side1 => exact TB.below hT (by repeat (first | (with_reducible first | exact HB.out | apply below_alloc | apply pw_below_drewN | apply below_drew1 | refine below_set ?_ GE311.out) | exact HB.out))); rintro e w' ⟨rfl, ⟨nd, rfl⟩⟩))
              go_roundg k2
              case measure => have := HJ9.out; have := HK2.out; omega
              case rel => exact ⟨(wrap64 (x10_2 + 1)), (by first | rfl | (simp; done) | (simp [*]; done) | (simp; unfold wrap64; omega)), H', ⟨by have := HJ9.out; have := HK2.out; omega⟩, ⟨by (with_reducible repeat (first | refine blk_drewN ?_ _ | refine blk_drew ?_ | refine blk_alloc ?_ _)); exact BK311.out⟩, ⟨by repeat (first | (with_reducible first | exact HB.out | apply below_alloc | apply pw_below_drewN | apply below_drew1 | refine below_set ?_ GE311.out) | exact HB.out)⟩⟩
             ·replace c43 := Bool.eq_false_iff.mpr c43
              subst c43
              have H1 : ((scriberef11_digit.f (bt a0 x10_2)).bind fun t318 => (if t318 = true then (scriberef11_one.l0 k2 a0 a1 (wrap64 (x10_2 + 1))) else (scriberef11_one.j2 k2 a0 a1 x10_2))) = some (r1, r2, r3, r4) := by rw [if_neg (show ¬ (false = true) by decide)] at H; exact H
              clear H
              have H := H1
              clear H1
              replace H := Option.bind_eq_some_iff.mp H
              obtain ⟨t318, A450, H⟩ := H
              replace H : (if t318 = true then (scriberef11_one.l0 k2 a0 a1 (wrap64 (x10_2 + 1))) else (scriberef11_one.j2 k2 a0 a1 x10_2)) = some (r1, r2, r3, r4) := H
              have A45 := Aside0.mk A450
              clear A450
              by_cases c46 : t318 = true
              ·subst c46
               have H1 : (scriberef11_one.l0 k2 a0 a1 (wrap64 (x10_2 + 1))) = some (r1, r2, r3, r4) := by rw [if_pos rfl] at H; exact H
               clear H
               have H := H1
               clear H1
               have H' := Aside0.mk H
               clear H
               have p41 : 0 ≤ (x10_2 : Int) := of_decide_eq_true (by first | (with_reducible assumption) | assumption)
               have q41 : x10_2 < (a0.size : Int) := of_decide_eq_true (by first | (with_reducible assumption) | assumption)
               have hx41 := bt_at a0 x10_2
               replace p41 := eq_true p41
               replace q41 := eq_true q41
               go_wp2_with (first | (go_at_call 37; (with_reducible refine (scriberef11_letter.calls (bt a0 x10_2) false _ ?side1 A42.out).mono ?_); (case side1 => exact TB.below hT (by repeat (first | (with_reducible first | exact HB.out | apply below_alloc | apply pw_below_drewN | apply below_drew1 | refine below_set ?_ GE311.out) | exact HB.out))); rintro e w' ⟨rfl, ⟨nd, rfl⟩⟩; have p44 : 0 ≤ (x10_2 : Int) := of_decide_eq_true (by first | (with_reducible assumption) | assumption); have q44 : x10_2 < (a0.size : Int) := of_decide_eq_true (by first | (with_reducible assumption) | assumption); have hx44 := bt_at a0 x10_2; replace p44 := eq_true p44; replace q44 := eq_true q44) | (go_at_call 35; (with_reducible refine (scriberef11_digit.calls (bt a0 x10_2) true _ ?side1 A45.out).mono ?_); (case side1 => exact TB.below hT (by repeat (first | (with_reducible first | exact HB.out | apply below_alloc | apply pw_below_drewN | apply below_drew1 | refine below_set ?_ GE311.out) | exact HB.out))); rintro e w' ⟨rfl, ⟨nd, rfl⟩⟩))
               go_roundg k2
               case measure => have := HJ9.out; have := HK2.out; omega
               case rel => exact ⟨(wrap64 (x10_2 + 1)), (by first | rfl | (simp; done) | (simp [*]; done) | (simp; unfold wrap64; omega)), H', ⟨by have := HJ9.out; have := HK2.out; omega⟩, ⟨by (with_reducible repeat (first | refine blk_drewN ?_ _ | refine blk_drew ?_ | refine blk_alloc ?_ _)); exact BK311.out⟩, ⟨by repeat (first | (with_reducible first | exact HB.out | apply below_alloc | apply pw_below_drewN | apply below_drew1 | refine below_set ?_ GE311.out) | exact HB.out)⟩⟩
              ·replace c46 := Bool.eq_false_iff.mpr c46
               subst c46
               have H1 : (scriberef11_one.j2 k2 a0 a1 x10_2) = some (r1, r2, r3, r4) := by rw [if_neg (show ¬ (false = true) by decide)] at H; exact H
               clear H
               have H := H1
               clear H1
               have H' := Aside0.mk H
               clear H
               have p41 : 0 ≤ (x10_2 : Int) := of_decide_eq_true (by first | (with_reducible assumption) | assumption)
               have q41 : x10_2 < (a0.size : Int) := of_decide_eq_true (by first | (with_reducible assumption) | assumption)
               have hx41 := bt_at a0 x10_2
               replace p41 := eq_true p41
               replace q41 := eq_true q41
               go_wp2_with (first | (go_at_call 37; (with_reducible refine (scriberef11_letter.calls (bt a0 x10_2) false _ ?side1 A42.out).mono ?_); (case side1 => exact TB.below hT (by repeat (first | (with_reducible first | exact HB.out | apply below_alloc | apply pw_below_drewN | apply below_drew1 | refine below_set ?_ GE311.out) | exact HB.out))); rintro e w' ⟨rfl, ⟨nd, rfl⟩⟩; have p44 : 0 ≤ (x10_2 : Int) := of_decide_eq_true (by first | (with_reducible assumption) | assumption); have q44 : x10_2 < (a0.size : Int) := of_decide_eq_true (by first | (with_reducible assumption) | assumption); have hx44 := bt_at a0 x10_2; replace p44 := eq_true p44; replace q44 := eq_true q44) | (go_at_call 35; (with_reducible refine (scriberef11_digit.calls (bt a0 x10_2) false _ ?side1 A45.out).mono ?_); (case side1 => exact TB.below hT (by repeat (first | (with_reducible first | exact HB.out | apply below_alloc | apply pw_below_drewN | apply below_drew1 | refine below_set ?_ GE311.out) | exact HB.out))); rintro e w' ⟨rfl, ⟨nd, rfl⟩⟩))
               go_meet
               case rel => exact ⟨_, (x10_2), (by first | rfl | (simp; done) | (simp [*]; done) | (simp; unfold wrap64; omega)), H', ⟨by have := HJ9.out; have := HK2.out; first | omega | exact Nat.le_refl _⟩, ⟨by (with_reducible repeat (first | refine blk_drewN ?_ _ | refine blk_drew ?_ | refine blk_alloc ?_ _)); exact BK311.out⟩, ⟨by repeat (first | (with_reducible first | exact HB.out | apply below_alloc | apply pw_below_drewN | apply below_drew1 | refine below_set ?_ GE311.out) | exact HB.out)⟩⟩
            ·rw [if_neg c40] at H
             exact absurd H (by simp)
           ·rw [if_neg c39] at H
            have c39b0 : decide (x10_2 < (a0.size : Int)) = false := decide_eq_false c39
            clear c39
            (first | rw [c39b0] | (simp only [i64_w, i32_w]; rw [c39b0]) | skip)
            have H' := Aside0.mk H
            clear H
            go_wp2
            go_meet
            case rel => exact ⟨_, (x10_2), (by first | rfl | (simp; done) | (simp [*]; done) | (simp; unfold wrap64; omega)), H', ⟨by have := HJ9.out; have := HK2.out; first | omega | exact Nat.le_refl _⟩, ⟨by (with_reducible repeat (first | refine blk_drewN ?_ _ | refine blk_drew ?_ | refine blk_alloc ?_ _)); exact BK311.out⟩, ⟨by repeat (first | (with_reducible first | exact HB.out | apply below_alloc | apply pw_below_drewN | apply below_drew1 | refine below_set ?_ GE311.out) | exact HB.out)⟩⟩
        case rest =>
         clear HC38
         try clear c1
         try clear c2
         try clear p2
         try clear q2
         try clear hx2
         try clear c3
         try clear c4
         try clear c4b0
         try clear p4
         try clear q4
         try clear hx4
         try clear c5
         try clear c5b0
         try clear p6
         try clear q6
         try clear hx6
         try clear c7
         try clear c7b0
         try clear c7b1
         try clear c13
         try clear c14
         try clear c14b0
         try clear c14b1
         try clear c16
         try clear c18
         try clear c18b0
         try clear c19
         try clear c20
         try clear c20b0
         try clear p21
         try clear q21
         try clear hx21
         try clear c22
         try clear c22b0
         try clear c22b1
         try clear c24
         try clear c24b0
         try clear c24b1
         try clear c25
         try clear c25b0
         try clear c25b1
         try clear c26
         try clear c26b0
         try clear c26b1
         try clear c28
         try clear c28b0
         try clear c28b1
         try clear c29
         try clear c29b0
         try clear c29b1
         try clear c30
         try clear c30b0
         try clear c30b1
         try clear c32
         try clear c32b0
         try clear c32b1
         try clear c33
         try clear c33b0
         try clear c33b1
         try clear c34
         try clear c34b0
         try clear c34b1
         try clear c35
         try clear c36
         try clear c37
         try clear c39
         try clear c39b0
         try clear c40
         try clear c40b0
         try clear p41
         try clear q41
         try clear hx41
         try clear c43
         try clear p44
         try clear q44
         try clear hx44
         try clear c46
         try clear hcz27_0
         try clear hcz27_1
         try clear hcz27_2
         try clear hcz31_0
         try clear hcz31_1
         try clear hcz31_2
         try clear hcz35_0
         try clear hcz35_1
         try clear hcz35_2
         try clear hcz9_0
         try clear hcz9_1
         try clear hcz9_2
         try clear hfz27_0
         try clear hfz27_1
         try clear hfz27_2
         try clear hfz31_0
         try clear hfz31_1
         try clear hfz31_2
         try clear hfz35_0
         try clear hfz35_1
         try clear hfz35_2
         try clear hfz9_0
         try clear hfz9_1
         try clear hfz9_2
         try clear p2
         try clear p21
         try clear p41
         try clear p44
         try clear p6
         try clear q2
         try clear q21
         try clear q41
         try clear q44
         try clear q6
         obtain ⟨kq, x10_37, rfl, HA, HJ37, BK311, HB⟩ := hcut
         cases kq with
         | zero => exact absurd HA.out (by simp [scriberef11_one.j2])
         | succ kj37 =>
          have H := HA.out
          clear HA
          simp only [scriberef11_one.j2] at H
          by_cases c47 : 0 ≤ a1
          ·rw [if_pos c47] at H
           have c47b0 := eq_true c47
           have c47b1 : decide (0 ≤ a1) = true := decide_eq_true c47
           clear c47
           by_cases c48 : a1 ≤ x10_37
           ·rw [if_pos c48] at H
            have c48b0 := eq_true c48
            have c48b1 : decide (a1 ≤ x10_37) = true := decide_eq_true c48
            clear c48
            by_cases c49 : x10_37 ≤ (a0.size : Int)
            ·rw [if_pos c49] at H
             have c49b0 := eq_true c49
             have c49b1 : decide (x10_37 ≤ (a0.size : Int)) = true := decide_eq_true c49
             clear c49
             have HC50 := Aside0.mk H
             clear H
             go_upto_region 15 with (fail)
             go_cut [102] (fun v102 wc => ∃ (kq : Nat) (x102_49 : Bool), v102 = .bool x102_49 ∧ Aside0 (scriberef11_one.j3 kq a1 x10_37 (a0.extract (a1 : Int).toNat (x10_37 : Int).toNat) 5 x102_49 = some (r1, r2, r3, r4)) ∧ Aside0 (kq ≤ kj37) ∧ Aside0 (wc.heap[gb311]? = some (.cells #[.int .i64 0, .string (⟨#[]⟩ : ByteArray), .int .i64 0] 46 (0, 0))) ∧ Aside0 (Below w.heap.size w wc))
             case first =>
              have H := HC50.out
              clear HC50
              by_cases c51 : x10_37 < (a0.size : Int)
              ·rw [if_pos c51] at H
               have c51b0 : decide (x10_37 < (a0.size : Int)) = true := decide_eq_true c51
               clear c51
               (first | rw [c51b0] | (simp only [i64_w, i32_w]; rw [c51b0]) | skip)
               by_cases c52 : 0 ≤ x10_37
               ·rw [if_pos c52] at H
                have c52b0 : decide (0 ≤ x10_37) = true := decide_eq_true c52
                clear c52
                have H' := Aside0.mk H
                clear H
                have p53 : 0 ≤ (x10_37 : Int) := of_decide_eq_true (by first | (with_reducible assumption) | assumption)
                have q53 : x10_37 < (a0.size : Int) := of_decide_eq_true (by first | (with_reducible assumption) | assumption)
                have hx53 := bt_at a0 x10_37
                replace p53 := eq_true p53
                replace q53 := eq_true q53
                go_wp2
                go_meet
                case rel => exact ⟨_, (((bt a0 x10_37) == 40)), (by first | rfl | (simp; done) | (simp [*]; done) | (simp; unfold wrap64; omega)), H', ⟨by have := HJ9.out; have := HJ37.out; first | omega | exact Nat.le_refl _⟩, ⟨by (with_reducible repeat (first | refine blk_drewN ?_ _ | refine blk_drew ?_ | refine blk_alloc ?_ _)); exact BK311.out⟩, ⟨by repeat (first | (with_reducible first | exact HB.out | apply below_alloc | apply pw_below_drewN | apply below_drew1 | refine below_set ?_ GE311.out) | exact HB.out)⟩⟩
               ·rw [if_neg c52] at H
                exact absurd H (by simp)
              ·rw [if_neg c51] at H
               have c51b0 : decide (x10_37 < (a0.size : Int)) = false := decide_eq_false c51
               clear c51
               (first | rw [c51b0] | (simp only [i64_w, i32_w]; rw [c51b0]) | skip)
               have H' := Aside0.mk H
               clear H
               go_wp2
               go_meet
               case rel => exact ⟨_, (false), (by first | rfl | (simp; done) | (simp [*]; done) | (simp; unfold wrap64; omega)), H', ⟨by have := HJ9.out; have := HJ37.out; first | omega | exact Nat.le_refl _⟩, ⟨by (with_reducible repeat (first | refine blk_drewN ?_ _ | refine blk_drew ?_ | refine blk_alloc ?_ _)); exact BK311.out⟩, ⟨by repeat (first | (with_reducible first | exact HB.out | apply below_alloc | apply pw_below_drewN | apply below_drew1 | refine below_set ?_ GE311.out) | exact HB.out)⟩⟩
             case rest =>
              clear HC50
              try clear c1
              try clear c2
              try clear p2
              try clear q2
              try clear hx2
              try clear c3
              try clear c4
              try clear c4b0
              try clear p4
              try clear q4
              try clear hx4
              try clear c5
              try clear c5b0
              try clear p5
              try clear q5
              try clear hx5
              try clear p6
              try clear q6
              try clear hx6
              try clear c7
              try clear c7b0
              try clear c7b1
              try clear c13
              try clear c14
              try clear c14b0
              try clear c14b1
              try clear c16
              try clear c18
              try clear c18b0
              try clear c19
              try clear c20
              try clear c20b0
              try clear p21
              try clear q21
              try clear hx21
              try clear c22
              try clear c22b0
              try clear c22b1
              try clear c24
              try clear c24b0
              try clear c24b1
              try clear c25
              try clear c25b0
              try clear c25b1
              try clear c26
              try clear c26b0
              try clear c26b1
              try clear c28
              try clear c28b0
              try clear c28b1
              try clear c29
              try clear c29b0
              try clear c29b1
              try clear c30
              try clear c30b0
              try clear c30b1
              try clear c32
              try clear c32b0
              try clear c32b1
              try clear c33
              try clear c33b0
              try clear c33b1
              try clear c34
              try clear c34b0
              try clear c34b1
              try clear c35
              try clear c36
              try clear c37
              try clear c39
              try clear c39b0
              try clear c40
              try clear c40b0
              try clear p41
              try clear q41
              try clear hx41
              try clear c43
              try clear p44
              try clear q44
              try clear hx44
              try clear c46
              try clear c47
              try clear c47b0
              try clear c47b1
              try clear c48
              try clear c48b0
              try clear c48b1
              try clear c49
              try clear c49b0
              try clear c49b1
              try clear c51
              try clear c51b0
              try clear c52
              try clear c52b0
              try clear p53
              try clear q53
              try clear hx53
              try clear hcz27_0
              try clear hcz27_1
              try clear hcz27_2
              try clear hcz31_0
              try clear hcz31_1
              try clear hcz31_2
              try clear hcz35_0
              try clear hcz35_1
              try clear hcz35_2
              try clear hcz9_0
              try clear hcz9_1
              try clear hcz9_2
              try clear hfz27_0
              try clear hfz27_1
              try clear hfz27_2
              try clear hfz31_0
              try clear hfz31_1
              try clear hfz31_2
              try clear hfz35_0
              try clear hfz35_1
              try clear hfz35_2
              try clear hfz9_0
              try clear hfz9_1
              try clear hfz9_2
              try clear p2
              try clear p21
              try clear p4
              try clear p41
              try clear p44
              try clear p53
              try clear p6
              try clear q2
              try clear q21
              try clear q4
              try clear q41
              try clear q44
              try clear q53
              try clear q6
              obtain ⟨kq, x102_49, rfl, HA, HJ49, BK311, HB⟩ := hcut
              cases kq with
              | zero => exact absurd HA.out (by simp [scriberef11_one.j3])
              | succ kj49 =>
               have H := HA.out
               clear HA
               simp only [scriberef11_one.j3] at H
               have HC54 := Aside0.mk H
               clear H
               go_upto_if 102 with (fail)
               go_cut [12] (fun v12 wc => ∃ (kq : Nat) (x12_53 : Int), v12 = .int .i64 x12_53 ∧ Aside0 (scriberef11_one.j4 kq a1 x10_37 (a0.extract (a1 : Int).toNat (x10_37 : Int).toNat) x12_53 = some (r1, r2, r3, r4)) ∧ Aside0 (kq ≤ kj49) ∧ Aside0 (wc.heap[gb311]? = some (.cells #[.int .i64 0, .string (⟨#[]⟩ : ByteArray), .int .i64 0] 46 (0, 0))) ∧ Aside0 (Below w.heap.size w wc))
               case first =>
                have H := HC54.out
                clear HC54
                by_cases c55 : x102_49 = true
                ·subst c55
                 have H1 : (scriberef11_one.j4 kj49 a1 x10_37 (a0.extract (a1 : Int).toNat (x10_37 : Int).toNat) 6) = some (r1, r2, r3, r4) := by rw [if_pos rfl] at H; exact H
                 clear H
                 have H := H1
                 clear H1
                 have H' := Aside0.mk H
                 clear H
                 go_wp2
                 go_meet
                 case rel => exact ⟨_, (6), (by first | rfl | (simp; done) | (simp [*]; done) | (simp; unfold wrap64; omega)), H', ⟨by have := HJ9.out; have := HJ37.out; have := HJ49.out; first | omega | exact Nat.le_refl _⟩, ⟨by (with_reducible repeat (first | refine blk_drewN ?_ _ | refine blk_drew ?_ | refine blk_alloc ?_ _)); exact BK311.out⟩, ⟨by repeat (first | (with_reducible first | exact HB.out | apply below_alloc | apply pw_below_drewN | apply below_drew1 | refine below_set ?_ GE311.out) | exact HB.out)⟩⟩
                ·replace c55 := Bool.eq_false_iff.mpr c55
                 subst c55
                 have H1 : (scriberef11_one.j4 kj49 a1 x10_37 (a0.extract (a1 : Int).toNat (x10_37 : Int).toNat) 5) = some (r1, r2, r3, r4) := by rw [if_neg (show ¬ (false = true) by decide)] at H; exact H
                 clear H
                 have H := H1
                 clear H1
                 have H' := Aside0.mk H
                 clear H
                 go_wp2
                 go_meet
                 case rel => exact ⟨_, (5), (by first | rfl | (simp; done) | (simp [*]; done) | (simp; unfold wrap64; omega)), H', ⟨by have := HJ9.out; have := HJ37.out; have := HJ49.out; first | omega | exact Nat.le_refl _⟩, ⟨by (with_reducible repeat (first | refine blk_drewN ?_ _ | refine blk_drew ?_ | refine blk_alloc ?_ _)); exact BK311.out⟩, ⟨by repeat (first | (with_reducible first | exact HB.out | apply below_alloc | apply pw_below_drewN | apply below_drew1 | refine below_set ?_ GE311.out) | exact HB.out)⟩⟩
               case rest =>
                clear HC54
                try clear c1
                try clear c2
                try clear p2
                try clear q2
                try clear hx2
                try clear c3
                try clear c4
                try clear c4b0
                try clear p4
                try clear q4
                try clear hx4
                try clear c5
                try clear c5b0
                try clear p5
                try clear q5
                try clear hx5
                try clear p6
                try clear q6
                try clear hx6
                try clear c7
                try clear c7b0
                try clear c7b1
                try clear c13
                try clear c14
                try clear c14b0
                try clear c14b1
                try clear c16
                try clear c18
                try clear c18b0
                try clear c19
                try clear c20
                try clear c20b0
                try clear p21
                try clear q21
                try clear hx21
                try clear c22
                try clear c22b0
                try clear c22b1
                try clear c24
                try clear c24b0
                try clear c24b1
                try clear c25
                try clear c25b0
                try clear c25b1
                try clear c26
                try clear c26b0
                try clear c26b1
                try clear c28
                try clear c28b0
                try clear c28b1
                try clear c29
                try clear c29b0
                try clear c29b1
                try clear c30
                try clear c30b0
                try clear c30b1
                try clear c32
                try clear c32b0
                try clear c32b1
                try clear c33
                try clear c33b0
                try clear c33b1
                try clear c34
                try clear c34b0
                try clear c34b1
                try clear c35
                try clear c36
                try clear c37
                try clear c39
                try clear c39b0
                try clear c40
                try clear c40b0
                try clear p41
                try clear q41
                try clear hx41
                try clear c43
                try clear p44
                try clear q44
                try clear hx44
                try clear c46
                try clear c47
                try clear c47b0
                try clear c47b1
                try clear c48
                try clear c48b0
                try clear c48b1
                try clear c49
                try clear c49b0
                try clear c49b1
                try clear c51
                try clear c51b0
                try clear c52
                try clear c52b0
                try clear p53
                try clear q53
                try clear hx53
                try clear c55
                try clear hcz27_0
                try clear hcz27_1
                try clear hcz27_2
                try clear hcz31_0
                try clear hcz31_1
                try clear hcz31_2
                try clear hcz35_0
                try clear hcz35_1
                try clear hcz35_2
                try clear hcz9_0
                try clear hcz9_1
                try clear hcz9_2
                try clear hfz27_0
                try clear hfz27_1
                try clear hfz27_2
                try clear hfz31_0
                try clear hfz31_1
                try clear hfz31_2
                try clear hfz35_0
                try clear hfz35_1
                try clear hfz35_2
                try clear hfz9_0
                try clear hfz9_1
                try clear hfz9_2
                try clear p2
                try clear p21
                try clear p4
                try clear p41
                try clear p44
                try clear p5
                try clear p53
                try clear p6
                try clear q2
                try clear q21
                try clear q4
                try clear q41
                try clear q44
                try clear q5
                try clear q53
                try clear q6
                obtain ⟨kq, x12_53, rfl, HA, HJ53, BK311, HB⟩ := hcut
                cases kq with
                | zero => exact absurd HA.out (by simp [scriberef11_one.j4])
                | succ kj53 =>
                 have H := HA.out
                 clear HA
                 simp only [scriberef11_one.j4] at H
                 replace H := Option.bind_eq_some_iff.mp H
                 obtain ⟨t319, A560, H⟩ := H
                 replace H : (if t319 = true then (scriberef11_one.j5 kj53 a1 x10_37 (a0.extract (a1 : Int).toNat (x10_37 : Int).toNat) 7) else (scriberef11_one.j5 kj53 a1 x10_37 (a0.extract (a1 : Int).toNat (x10_37 : Int).toNat) x12_53)) = some (r1, r2, r3, r4) := H
                 have A56 := Aside0.mk A560
                 clear A560
                 have HC57 := Aside0.mk H
                 clear H
                 go_upto_if 104 with (first | ((with_reducible refine gate_callee (f := 38) rfl ?_); refine goesL_ (some 104) rfl rfl Tryd.func38 (by kernel_rfl) rfl #[.string (a0.extract (a1 : Int).toNat (x10_37 : Int).toNat), .string (⟨#[66, 69, 71, 73, 78, 32, 69, 78, 68, 32, 102, 117, 110, 99, 116, 105, 111, 110, 32, 105, 102, 32, 101, 108, 115, 101, 32, 119, 104, 105, 108, 101, 32, 102, 111, 114, 32, 105, 110, 32, 98, 114, 101, 97, 107, 32, 99, 111, 110, 116, 105, 110, 117, 101, 32, 110, 101, 120, 116, 32, 101, 120, 105, 116, 32, 114, 101, 116, 117, 114, 110, 32, 100, 101, 108, 101, 116, 101, 32, 112, 114, 105, 110, 116, 32, 112, 114, 105, 110, 116, 102]⟩ : ByteArray)] rfl (by (try simp only [List.map_toArray, List.map_cons, List.map_nil]); first | done | rfl | (simp only [List.length_drop, List.length_take]; rfl)) ?_; (with_reducible refine (scriberef11_among.calls kj53 (a0.extract (a1 : Int).toNat (x10_37 : Int).toNat) (⟨#[66, 69, 71, 73, 78, 32, 69, 78, 68, 32, 102, 117, 110, 99, 116, 105, 111, 110, 32, 105, 102, 32, 101, 108, 115, 101, 32, 119, 104, 105, 108, 101, 32, 102, 111, 114, 32, 105, 110, 32, 98, 114, 101, 97, 107, 32, 99, 111, 110, 116, 105, 110, 117, 101, 32, 110, 101, 120, 116, 32, 101, 120, 105, 116, 32, 114, 101, 116, 117, 114, 110, 32, 100, 101, 108, 101, 116, 101, 32, 112, 114, 105, 110, 116, 32, 112, 114, 105, 110, 116, 102]⟩ : ByteArray) t319 _ ?side1 A56.out).mono ?_); (case side1 => exact TB.below hT (by repeat (first | (with_reducible first | exact HB.out | apply below_alloc | apply pw_below_drewN | apply below_drew1 | refine below_set ?_ GE311.out) | exact HB.out))); rintro e w' ⟨rfl, ⟨nd, rfl⟩⟩; refine ⟨_, rfl, ?_⟩))
                 (try simp only [Act.put, List.setIfInBounds_toArray, List.set_cons_zero, List.set_cons_succ])
                 go_cut [12] (fun v12 wc => ∃ (kq : Nat) (x12_56 : Int), v12 = .int .i64 x12_56 ∧ Aside0 (scriberef11_one.j5 kq a1 x10_37 (a0.extract (a1 : Int).toNat (x10_37 : Int).toNat) x12_56 = some (r1, r2, r3, r4)) ∧ Aside0 (kq ≤ kj53) ∧ Aside0 (wc.heap[gb311]? = some (.cells #[.int .i64 0, .string (⟨#[]⟩ : ByteArray), .int .i64 0] 46 (0, 0))) ∧ Aside0 (Below w.heap.size w wc))
                 case first =>
                  have H := HC57.out
                  clear HC57
                  by_cases c58 : t319 = true
                  ·subst c58
                   have H1 : (scriberef11_one.j5 kj53 a1 x10_37 (a0.extract (a1 : Int).toNat (x10_37 : Int).toNat) 7) = some (r1, r2, r3, r4) := by rw [if_pos rfl] at H; exact H
                   clear H
                   have H := H1
                   clear H1
                   have H' := Aside0.mk H
                   clear H
                   go_wp2
                   go_meet
                   case rel => exact ⟨_, (7), (by first | rfl | (simp; done) | (simp [*]; done) | (simp; unfold wrap64; omega)), H', ⟨by have := HJ9.out; have := HJ37.out; have := HJ49.out; have := HJ53.out; first | omega | exact Nat.le_refl _⟩, ⟨by (with_reducible repeat (first | refine blk_drewN ?_ _ | refine blk_drew ?_ | refine blk_alloc ?_ _)); exact BK311.out⟩, ⟨by repeat (first | (with_reducible first | exact HB.out | apply below_alloc | apply pw_below_drewN | apply below_drew1 | refine below_set ?_ GE311.out) | exact HB.out)⟩⟩
                  ·replace c58 := Bool.eq_false_iff.mpr c58
                   subst c58
                   have H1 : (scriberef11_one.j5 kj53 a1 x10_37 (a0.extract (a1 : Int).toNat (x10_37 : Int).toNat) x12_53) = some (r1, r2, r3, r4) := by rw [if_neg (show ¬ (false = true) by decide)] at H; exact H
                   clear H
                   have H := H1
                   clear H1
                   have H' := Aside0.mk H
                   clear H
                   go_wp2
                   go_meet
                   case rel => exact ⟨_, (x12_53), (by first | rfl | (simp; done) | (simp [*]; done) | (simp; unfold wrap64; omega)), H', ⟨by have := HJ9.out; have := HJ37.out; have := HJ49.out; have := HJ53.out; first | omega | exact Nat.le_refl _⟩, ⟨by (with_reducible repeat (first | refine blk_drewN ?_ _ | refine blk_drew ?_ | refine blk_alloc ?_ _)); exact BK311.out⟩, ⟨by repeat (first | (with_reducible first | exact HB.out | apply below_alloc | apply pw_below_drewN | apply below_drew1 | refine below_set ?_ GE311.out) | exact HB.out)⟩⟩
                 case rest =>
                  clear HC57
                  try clear c1
                  try clear c2
                  try clear p2
                  try clear q2
                  try clear hx2
                  try clear c3
                  try clear c4
                  try clear c4b0
                  try clear p4
                  try clear q4
                  try clear hx4
                  try clear c5
                  try clear c5b0
                  try clear p5
                  try clear q5
                  try clear hx5
                  try clear p6
                  try clear q6
                  try clear hx6
                  try clear c7
                  try clear c7b0
                  try clear c7b1
                  try clear c13
                  try clear c14
                  try clear c14b0
                  try clear c14b1
                  try clear c16
                  try clear c18
                  try clear c18b0
                  try clear c19
                  try clear c20
                  try clear c20b0
                  try clear p21
                  try clear q21
                  try clear hx21
                  try clear c22
                  try clear c22b0
                  try clear c22b1
                  try clear c24
                  try clear c24b0
                  try clear c24b1
                  try clear c25
                  try clear c25b0
                  try clear c25b1
                  try clear c26
                  try clear c26b0
                  try clear c26b1
                  try clear c28
                  try clear c28b0
                  try clear c28b1
                  try clear c29
                  try clear c29b0
                  try clear c29b1
                  try clear c30
                  try clear c30b0
                  try clear c30b1
                  try clear c32
                  try clear c32b0
                  try clear c32b1
                  try clear c33
                  try clear c33b0
                  try clear c33b1
                  try clear c34
                  try clear c34b0
                  try clear c34b1
                  try clear c35
                  try clear c36
                  try clear c37
                  try clear c38
                  try clear c39
                  try clear c39b0
                  try clear c40
                  try clear c40b0
                  try clear p41
                  try clear q41
                  try clear hx41
                  try clear c43
                  try clear p44
                  try clear q44
                  try clear hx44
                  try clear c46
                  try clear c47
                  try clear c47b0
                  try clear c47b1
                  try clear c48
                  try clear c48b0
                  try clear c48b1
                  try clear c49
                  try clear c49b0
                  try clear c49b1
                  try clear c51
                  try clear c51b0
                  try clear c52
                  try clear c52b0
                  try clear p53
                  try clear q53
                  try clear hx53
                  try clear c55
                  try clear c58
                  try clear hcz27_0
                  try clear hcz27_1
                  try clear hcz27_2
                  try clear hcz31_0
                  try clear hcz31_1
                  try clear hcz31_2
                  try clear hcz35_0
                  try clear hcz35_1
                  try clear hcz35_2
                  try clear hcz9_0
                  try clear hcz9_1
                  try clear hcz9_2
                  try clear hfz27_0
                  try clear hfz27_1
                  try clear hfz27_2
                  try clear hfz31_0
                  try clear hfz31_1
                  try clear hfz31_2
                  try clear hfz35_0
                  try clear hfz35_1
                  try clear hfz35_2
                  try clear hfz9_0
                  try clear hfz9_1
                  try clear hfz9_2
                  try clear p2
                  try clear p21
                  try clear p4
                  try clear p41
                  try clear p44
                  try clear p5
                  try clear p53
                  try clear p6
                  try clear q2
                  try clear q21
                  try clear q4
                  try clear q41
                  try clear q44
                  try clear q5
                  try clear q53
                  try clear q6
                  obtain ⟨kq, x12_56, rfl, HA, HJ56, BK311, HB⟩ := hcut
                  cases kq with
                  | zero => exact absurd HA.out (by simp [scriberef11_one.j5])
                  | succ kj56 =>
                   have H := HA.out
                   clear HA
                   simp only [scriberef11_one.j5] at H
                   replace H := Option.bind_eq_some_iff.mp H
                   obtain ⟨t320, A590, H⟩ := H
                   replace H : (if t320 = true then ((scriberef11_among.f kj56 (a0.extract (a1 : Int).toNat (x10_37 : Int).toNat) (⟨#[103, 101, 116, 108, 105, 110, 101, 32, 115, 121, 115, 116, 101, 109, 32, 99, 108, 111, 115, 101, 32, 102, 102, 108, 117, 115, 104, 32, 115, 121, 115, 116, 105, 109, 101, 32, 115, 116, 114, 102, 116, 105, 109, 101]⟩ : ByteArray)).bind fun t321 => (if t321 = true then (some (10, (a0.extract (a1 : Int).toNat (x10_37 : Int).toNat), a1, x10_37)) else (some (9, (a0.extract (a1 : Int).toNat (x10_37 : Int).toNat), a1, x10_37)))) else ((scriberef11_among.f kj56 (a0.extract (a1 : Int).toNat (x10_37 : Int).toNat) (⟨#[103, 101, 116, 108, 105, 110, 101, 32, 115, 121, 115, 116, 101, 109, 32, 99, 108, 111, 115, 101, 32, 102, 102, 108, 117, 115, 104, 32, 115, 121, 115, 116, 105, 109, 101, 32, 115, 116, 114, 102, 116, 105, 109, 101]⟩ : ByteArray)).bind fun t322 => (if t322 = true then (some (10, (a0.extract (a1 : Int).toNat (x10_37 : Int).toNat), a1, x10_37)) else (some (x12_56, (a0.extract (a1 : Int).toNat (x10_37 : Int).toNat), a1, x10_37))))) = some (r1, r2, r3, r4) := H
                   have A59 := Aside0.mk A590
                   clear A590
                   by_cases c60 : t320 = true
                   ·subst c60
                    have H1 : ((scriberef11_among.f kj56 (a0.extract (a1 : Int).toNat (x10_37 : Int).toNat) (⟨#[103, 101, 116, 108, 105, 110, 101, 32, 115, 121, 115, 116, 101, 109, 32, 99, 108, 111, 115, 101, 32, 102, 102, 108, 117, 115, 104, 32, 115, 121, 115, 116, 105, 109, 101, 32, 115, 116, 114, 102, 116, 105, 109, 101]⟩ : ByteArray)).bind fun t321 => (if t321 = true then (some (10, (a0.extract (a1 : Int).toNat (x10_37 : Int).toNat), a1, x10_37)) else (some (9, (a0.extract (a1 : Int).toNat (x10_37 : Int).toNat), a1, x10_37)))) = some (r1, r2, r3, r4) := by rw [if_pos rfl] at H; exact H
                    clear H
                    have H := H1
                    clear H1
                    replace H := Option.bind_eq_some_iff.mp H
                    obtain ⟨t321, A610, H⟩ := H
                    replace H : (if t321 = true then (some (10, (a0.extract (a1 : Int).toNat (x10_37 : Int).toNat), a1, x10_37)) else (some (9, (a0.extract (a1 : Int).toNat (x10_37 : Int).toNat), a1, x10_37))) = some (r1, r2, r3, r4) := H
                    have A61 := Aside0.mk A610
                    clear A610
                    by_cases c62 : t321 = true
                    ·subst c62
                     have H1 : (some (10, (a0.extract (a1 : Int).toNat (x10_37 : Int).toNat), a1, x10_37)) = some (r1, r2, r3, r4) := by rw [if_pos rfl] at H; exact H
                     clear H
                     have H := H1
                     clear H1
                     simp only [Option.some.injEq, Prod.mk.injEq] at H
                     obtain ⟨rfl, rfl, rfl, rfl⟩ := H
                     go_wp2_with (first | ((with_reducible refine gate_callee (f := 38) rfl ?_); refine goesL_ (some 106) rfl rfl Tryd.func38 (by kernel_rfl) rfl #[.string (a0.extract (a1 : Int).toNat (x10_37 : Int).toNat), .string (⟨#[108, 101, 110, 103, 116, 104, 32, 115, 117, 98, 115, 116, 114, 32, 105, 110, 100, 101, 120, 32, 115, 112, 108, 105, 116, 32, 115, 117, 98, 32, 103, 115, 117, 98, 32, 109, 97, 116, 99, 104, 32, 116, 111, 108, 111, 119, 101, 114, 32, 116, 111, 117, 112, 112, 101, 114, 32, 105, 110, 116, 32, 115, 112, 114, 105, 110, 116, 102, 32, 114, 97, 110, 100, 32, 115, 114, 97, 110, 100]⟩ : ByteArray)] rfl (by (try simp only [List.map_toArray, List.map_cons, List.map_nil]); first | done | rfl | (simp only [List.length_drop, List.length_take]; rfl)) ?_; (with_reducible refine (scriberef11_among.calls kj56 (a0.extract (a1 : Int).toNat (x10_37 : Int).toNat) (⟨#[108, 101, 110, 103, 116, 104, 32, 115, 117, 98, 115, 116, 114, 32, 105, 110, 100, 101, 120, 32, 115, 112, 108, 105, 116, 32, 115, 117, 98, 32, 103, 115, 117, 98, 32, 109, 97, 116, 99, 104, 32, 116, 111, 108, 111, 119, 101, 114, 32, 116, 111, 117, 112, 112, 101, 114, 32, 105, 110, 116, 32, 115, 112, 114, 105, 110, 116, 102, 32, 114, 97, 110, 100, 32, 115, 114, 97, 110, 100]⟩ : ByteArray) true _ ?side1 A59.out).mono ?_); (case side1 => exact TB.below hT (by repeat (first | (with_reducible first | exact HB.out | apply below_alloc | apply pw_below_drewN | apply below_drew1 | refine below_set ?_ GE311.out) | exact HB.out))); rintro e w' ⟨rfl, ⟨nd, rfl⟩⟩; refine ⟨_, rfl, ?_⟩; (try (rw [drewN_self wc]; generalize hq_ : World.drewN wc _ = wc; have n0_ : Aside0 (wc.heap[gb311]? = some (.cells #[.int .i64 0, .string (⟨#[]⟩ : ByteArray), .int .i64 0] 46 (0, 0))) := ⟨by rw [← hq_]; exact (by (with_reducible repeat (first | refine blk_drewN ?_ _ | refine blk_drew ?_ | refine blk_alloc ?_ _)); exact BK311.out)⟩; have n1_ : Aside0 (Below w.heap.size w wc) := ⟨by rw [← hq_]; exact (by repeat (first | (with_reducible first | exact HB.out | apply below_alloc | apply pw_below_drewN | apply below_drew1 | refine below_set ?_ GE311.out) | exact HB.out))⟩; clear BK311 HB hq_; have BK311 := n0_; have HB := n1_; clear n0_ n1_))) | ((with_reducible refine gate_callee (f := 38) rfl ?_); refine goesL_ (some 108) rfl rfl Tryd.func38 (by kernel_rfl) rfl #[.string (a0.extract (a1 : Int).toNat (x10_37 : Int).toNat), .string (⟨#[103, 101, 116, 108, 105, 110, 101, 32, 115, 121, 115, 116, 101, 109, 32, 99, 108, 111, 115, 101, 32, 102, 102, 108, 117, 115, 104, 32, 115, 121, 115, 116, 105, 109, 101, 32, 115, 116, 114, 102, 116, 105, 109, 101]⟩ : ByteArray)] rfl (by (try simp only [List.map_toArray, List.map_cons, List.map_nil]); first | done | rfl | (simp only [List.length_drop, List.length_take]; rfl)) ?_; (with_reducible refine (scriberef11_among.calls kj56 (a0.extract (a1 : Int).toNat (x10_37 : Int).toNat) (⟨#[103, 101, 116, 108, 105, 110, 101, 32, 115, 121, 115, 116, 101, 109, 32, 99, 108, 111, 115, 101, 32, 102, 102, 108, 117, 115, 104, 32, 115, 121, 115, 116, 105, 109, 101, 32, 115, 116, 114, 102, 116, 105, 109, 101]⟩ : ByteArray) true _ ?side1 A61.out).mono ?_); (case side1 => exact TB.below hT (by repeat (first | (with_reducible first | exact HB.out | apply below_alloc | apply pw_below_drewN | apply below_drew1 | refine below_set ?_ GE311.out) | exact HB.out))); rintro e w' ⟨rfl, ⟨nd, rfl⟩⟩; refine ⟨_, rfl, ?_⟩; (try (rw [drewN_self wc]; generalize hq_ : World.drewN wc _ = wc; have n0_ : Aside0 (wc.heap[gb311]? = some (.cells #[.int .i64 0, .string (⟨#[]⟩ : ByteArray), .int .i64 0] 46 (0, 0))) := ⟨by rw [← hq_]; exact (by (with_reducible repeat (first | refine blk_drewN ?_ _ | refine blk_drew ?_ | refine blk_alloc ?_ _)); exact BK311.out)⟩; have n1_ : Aside0 (Below w.heap.size w wc) := ⟨by rw [← hq_]; exact (by repeat (first | (with_reducible first | exact HB.out | apply below_alloc | apply pw_below_drewN | apply below_drew1 | refine below_set ?_ GE311.out) | exact HB.out))⟩; clear BK311 HB hq_; have BK311 := n0_; have HB := n1_; clear n0_ n1_)); have hcz63_0 : wc.cell? ⟨gb311, 0, none⟩ = some (.int .i64 0) := (blk_cell BK311.out 0).trans rfl; have hcz63_1 : wc.cell? ⟨gb311, 1, none⟩ = some (.string (⟨#[]⟩ : ByteArray)) := (blk_cell BK311.out 1).trans rfl; have hcz63_2 : wc.cell? ⟨gb311, 2, none⟩ = some (.int .i64 0) := (blk_cell BK311.out 2).trans rfl; have hfz63_0 := blk_frozen BK311.out 0; have hfz63_1 := blk_frozen BK311.out 1; have hfz63_2 := blk_frozen BK311.out 2))
                     refine bodyPost_ret (results_ct rfl _ _ gb311 46 #[.int .i64 10, .string (a0.extract (a1 : Int).toNat (x10_37 : Int).toNat), .int .i64 a1] (0, 0) _ rfl (by (with_reducible repeat (first | refine blk_drewN ?_ _ | refine blk_drew ?_ | refine blk_alloc ?_ _)); refine blk_put (cs := #[.int .i64 10, .string (a0.extract (a1 : Int).toNat (x10_37 : Int).toNat), .int .i64 0]) ?_ 2 _ rfl; (with_reducible repeat (first | refine blk_drewN ?_ _ | refine blk_drew ?_ | refine blk_alloc ?_ _)); refine blk_put (cs := #[.int .i64 10, .string (⟨#[]⟩ : ByteArray), .int .i64 0]) ?_ 1 _ rfl; (with_reducible repeat (first | refine blk_drewN ?_ _ | refine blk_drew ?_ | refine blk_alloc ?_ _)); refine blk_put (cs := #[.int .i64 0, .string (⟨#[]⟩ : ByteArray), .int .i64 0]) ?_ 0 _ rfl; (with_reducible repeat (first | refine blk_drewN ?_ _ | refine blk_drew ?_ | refine blk_alloc ?_ _)); exact BK311.out) Tryd.underlying46 rfl (by kernel_rfl)) rfl ?_
                     exact ⟨by first | rfl | (simp [errW_none, errW_some] <;> rfl) | (simp [errW_none, errW_some] <;> first | rfl | exact isEmpty_bne _) | (simp [*, errW_none, errW_some] <;> rfl), by repeat (first | (with_reducible first | exact HB.out | apply below_alloc | apply pw_below_drewN | apply below_drew1 | refine below_set ?_ GE311.out) | exact HB.out)⟩
                    ·replace c62 := Bool.eq_false_iff.mpr c62
                     subst c62
                     have H1 : (some (9, (a0.extract (a1 : Int).toNat (x10_37 : Int).toNat), a1, x10_37)) = some (r1, r2, r3, r4) := by rw [if_neg (show ¬ (false = true) by decide)] at H; exact H
                     clear H
                     have H := H1
                     clear H1
                     simp only [Option.some.injEq, Prod.mk.injEq] at H
                     obtain ⟨rfl, rfl, rfl, rfl⟩ := H
                     go_wp2_with (first | ((with_reducible refine gate_callee (f := 38) rfl ?_); refine goesL_ (some 106) rfl rfl Tryd.func38 (by kernel_rfl) rfl #[.string (a0.extract (a1 : Int).toNat (x10_37 : Int).toNat), .string (⟨#[108, 101, 110, 103, 116, 104, 32, 115, 117, 98, 115, 116, 114, 32, 105, 110, 100, 101, 120, 32, 115, 112, 108, 105, 116, 32, 115, 117, 98, 32, 103, 115, 117, 98, 32, 109, 97, 116, 99, 104, 32, 116, 111, 108, 111, 119, 101, 114, 32, 116, 111, 117, 112, 112, 101, 114, 32, 105, 110, 116, 32, 115, 112, 114, 105, 110, 116, 102, 32, 114, 97, 110, 100, 32, 115, 114, 97, 110, 100]⟩ : ByteArray)] rfl (by (try simp only [List.map_toArray, List.map_cons, List.map_nil]); first | done | rfl | (simp only [List.length_drop, List.length_take]; rfl)) ?_; (with_reducible refine (scriberef11_among.calls kj56 (a0.extract (a1 : Int).toNat (x10_37 : Int).toNat) (⟨#[108, 101, 110, 103, 116, 104, 32, 115, 117, 98, 115, 116, 114, 32, 105, 110, 100, 101, 120, 32, 115, 112, 108, 105, 116, 32, 115, 117, 98, 32, 103, 115, 117, 98, 32, 109, 97, 116, 99, 104, 32, 116, 111, 108, 111, 119, 101, 114, 32, 116, 111, 117, 112, 112, 101, 114, 32, 105, 110, 116, 32, 115, 112, 114, 105, 110, 116, 102, 32, 114, 97, 110, 100, 32, 115, 114, 97, 110, 100]⟩ : ByteArray) true _ ?side1 A59.out).mono ?_); (case side1 => exact TB.below hT (by repeat (first | (with_reducible first | exact HB.out | apply below_alloc | apply pw_below_drewN | apply below_drew1 | refine below_set ?_ GE311.out) | exact HB.out))); rintro e w' ⟨rfl, ⟨nd, rfl⟩⟩; refine ⟨_, rfl, ?_⟩; (try (rw [drewN_self wc]; generalize hq_ : World.drewN wc _ = wc; have n0_ : Aside0 (wc.heap[gb311]? = some (.cells #[.int .i64 0, .string (⟨#[]⟩ : ByteArray), .int .i64 0] 46 (0, 0))) := ⟨by rw [← hq_]; exact (by (with_reducible repeat (first | refine blk_drewN ?_ _ | refine blk_drew ?_ | refine blk_alloc ?_ _)); exact BK311.out)⟩; have n1_ : Aside0 (Below w.heap.size w wc) := ⟨by rw [← hq_]; exact (by repeat (first | (with_reducible first | exact HB.out | apply below_alloc | apply pw_below_drewN | apply below_drew1 | refine below_set ?_ GE311.out) | exact HB.out))⟩; clear BK311 HB hq_; have BK311 := n0_; have HB := n1_; clear n0_ n1_))) | ((with_reducible refine gate_callee (f := 38) rfl ?_); refine goesL_ (some 108) rfl rfl Tryd.func38 (by kernel_rfl) rfl #[.string (a0.extract (a1 : Int).toNat (x10_37 : Int).toNat), .string (⟨#[103, 101, 116, 108, 105, 110, 101, 32, 115, 121, 115, 116, 101, 109, 32, 99, 108, 111, 115, 101, 32, 102, 102, 108, 117, 115, 104, 32, 115, 121, 115, 116, 105, 109, 101, 32, 115, 116, 114, 102, 116, 105, 109, 101]⟩ : ByteArray)] rfl (by (try simp only [List.map_toArray, List.map_cons, List.map_nil]); first | done | rfl | (simp only [List.length_drop, List.length_take]; rfl)) ?_; (with_reducible refine (scriberef11_among.calls kj56 (a0.extract (a1 : Int).toNat (x10_37 : Int).toNat) (⟨#[103, 101, 116, 108, 105, 110, 101, 32, 115, 121, 115, 116, 101, 109, 32, 99, 108, 111, 115, 101, 32, 102, 102, 108, 117, 115, 104, 32, 115, 121, 115, 116, 105, 109, 101, 32, 115, 116, 114, 102, 116, 105, 109, 101]⟩ : ByteArray) false _ ?side1 A61.out).mono ?_); (case side1 => exact TB.below hT (by repeat (first | (with_reducible first | exact HB.out | apply below_alloc | apply pw_below_drewN | apply below_drew1 | refine below_set ?_ GE311.out) | exact HB.out))); rintro e w' ⟨rfl, ⟨nd, rfl⟩⟩; refine ⟨_, rfl, ?_⟩; (try (rw [drewN_self wc]; generalize hq_ : World.drewN wc _ = wc; have n0_ : Aside0 (wc.heap[gb311]? = some (.cells #[.int .i64 0, .string (⟨#[]⟩ : ByteArray), .int .i64 0] 46 (0, 0))) := ⟨by rw [← hq_]; exact (by (with_reducible repeat (first | refine blk_drewN ?_ _ | refine blk_drew ?_ | refine blk_alloc ?_ _)); exact BK311.out)⟩; have n1_ : Aside0 (Below w.heap.size w wc) := ⟨by rw [← hq_]; exact (by repeat (first | (with_reducible first | exact HB.out | apply below_alloc | apply pw_below_drewN | apply below_drew1 | refine below_set ?_ GE311.out) | exact HB.out))⟩; clear BK311 HB hq_; have BK311 := n0_; have HB := n1_; clear n0_ n1_)); have hcz64_0 : wc.cell? ⟨gb311, 0, none⟩ = some (.int .i64 0) := (blk_cell BK311.out 0).trans rfl; have hcz64_1 : wc.cell? ⟨gb311, 1, none⟩ = some (.string (⟨#[]⟩ : ByteArray)) := (blk_cell BK311.out 1).trans rfl; have hcz64_2 : wc.cell? ⟨gb311, 2, none⟩ = some (.int .i64 0) := (blk_cell BK311.out 2).trans rfl; have hfz64_0 := blk_frozen BK311.out 0; have hfz64_1 := blk_frozen BK311.out 1; have hfz64_2 := blk_frozen BK311.out 2))
                     refine bodyPost_ret (results_ct rfl _ _ gb311 46 #[.int .i64 9, .string (a0.extract (a1 : Int).toNat (x10_37 : Int).toNat), .int .i64 a1] (0, 0) _ rfl (by (with_reducible repeat (first | refine blk_drewN ?_ _ | refine blk_drew ?_ | refine blk_alloc ?_ _)); refine blk_put (cs := #[.int .i64 9, .string (a0.extract (a1 : Int).toNat (x10_37 : Int).toNat), .int .i64 0]) ?_ 2 _ rfl; (with_reducible repeat (first | refine blk_drewN ?_ _ | refine blk_drew ?_ | refine blk_alloc ?_ _)); refine blk_put (cs := #[.int .i64 9, .string (⟨#[]⟩ : ByteArray), .int .i64 0]) ?_ 1 _ rfl; (with_reducible repeat (first | refine blk_drewN ?_ _ | refine blk_drew ?_ | refine blk_alloc ?_ _)); refine blk_put (cs := #[.int .i64 0, .string (⟨#[]⟩ : ByteArray), .int .i64 0]) ?_ 0 _ rfl; (with_reducible repeat (first | refine blk_drewN ?_ _ | refine blk_drew ?_ | refine blk_alloc ?_ _)); exact BK311.out) Tryd.underlying46 rfl (by kernel_rfl)) rfl ?_
                     exact ⟨by first | rfl | (simp [errW_none, errW_some] <;> rfl) | (simp [errW_none, errW_some] <;> first | rfl | exact isEmpty_bne _) | (simp [*, errW_none, errW_some] <;> rfl), by repeat (first | (with_reducible first | exact HB.out | apply below_alloc | apply pw_below_drewN | apply below_drew1 | refine below_set ?_ GE311.out) | exact HB.out)⟩
                   ·replace c60 := Bool.eq_false_iff.mpr c60
                    subst c60
                    have H1 : ((scriberef11_among.f kj56 (a0.extract (a1 : Int).toNat (x10_37 : Int).toNat) (⟨#[103, 101, 116, 108, 105, 110, 101, 32, 115, 121, 115, 116, 101, 109, 32, 99, 108, 111, 115, 101, 32, 102, 102, 108, 117, 115, 104, 32, 115, 121, 115, 116, 105, 109, 101, 32, 115, 116, 114, 102, 116, 105, 109, 101]⟩ : ByteArray)).bind fun t322 => (if t322 = true then (some (10, (a0.extract (a1 : Int).toNat (x10_37 : Int).toNat), a1, x10_37)) else (some (x12_56, (a0.extract (a1 : Int).toNat (x10_37 : Int).toNat), a1, x10_37)))) = some (r1, r2, r3, r4) := by rw [if_neg (show ¬ (false = true) by decide)] at H; exact H
                    clear H
                    have H := H1
                    clear H1
                    replace H := Option.bind_eq_some_iff.mp H
                    obtain ⟨t322, A650, H⟩ := H
                    replace H : (if t322 = true then (some (10, (a0.extract (a1 : Int).toNat (x10_37 : Int).toNat), a1, x10_37)) else (some (x12_56, (a0.extract (a1 : Int).toNat (x10_37 : Int).toNat), a1, x10_37))) = some (r1, r2, r3, r4) := H
                    have A65 := Aside0.mk A650
                    clear A650
                    by_cases c66 : t322 = true
                    ·subst c66
                     have H1 : (some (10, (a0.extract (a1 : Int).toNat (x10_37 : Int).toNat), a1, x10_37)) = some (r1, r2, r3, r4) := by rw [if_pos rfl] at H; exact H
                     clear H
                     have H := H1
                     clear H1
                     simp only [Option.some.injEq, Prod.mk.injEq] at H
                     obtain ⟨rfl, rfl, rfl, rfl⟩ := H
                     go_wp2_with (first | ((with_reducible refine gate_callee (f := 38) rfl ?_); refine goesL_ (some 106) rfl rfl Tryd.func38 (by kernel_rfl) rfl #[.string (a0.extract (a1 : Int).toNat (x10_37 : Int).toNat), .string (⟨#[108, 101, 110, 103, 116, 104, 32, 115, 117, 98, 115, 116, 114, 32, 105, 110, 100, 101, 120, 32, 115, 112, 108, 105, 116, 32, 115, 117, 98, 32, 103, 115, 117, 98, 32, 109, 97, 116, 99, 104, 32, 116, 111, 108, 111, 119, 101, 114, 32, 116, 111, 117, 112, 112, 101, 114, 32, 105, 110, 116, 32, 115, 112, 114, 105, 110, 116, 102, 32, 114, 97, 110, 100, 32, 115, 114, 97, 110, 100]⟩ : ByteArray)] rfl (by (try simp only [List.map_toArray, List.map_cons, List.map_nil]); first | done | rfl | (simp only [List.length_drop, List.length_take]; rfl)) ?_; (with_reducible refine (scriberef11_among.calls kj56 (a0.extract (a1 : Int).toNat (x10_37 : Int).toNat) (⟨#[108, 101, 110, 103, 116, 104, 32, 115, 117, 98, 115, 116, 114, 32, 105, 110, 100, 101, 120, 32, 115, 112, 108, 105, 116, 32, 115, 117, 98, 32, 103, 115, 117, 98, 32, 109, 97, 116, 99, 104, 32, 116, 111, 108, 111, 119, 101, 114, 32, 116, 111, 117, 112, 112, 101, 114, 32, 105, 110, 116, 32, 115, 112, 114, 105, 110, 116, 102, 32, 114, 97, 110, 100, 32, 115, 114, 97, 110, 100]⟩ : ByteArray) false _ ?side1 A59.out).mono ?_); (case side1 => exact TB.below hT (by repeat (first | (with_reducible first | exact HB.out | apply below_alloc | apply pw_below_drewN | apply below_drew1 | refine below_set ?_ GE311.out) | exact HB.out))); rintro e w' ⟨rfl, ⟨nd, rfl⟩⟩; refine ⟨_, rfl, ?_⟩; (try (rw [drewN_self wc]; generalize hq_ : World.drewN wc _ = wc; have n0_ : Aside0 (wc.heap[gb311]? = some (.cells #[.int .i64 0, .string (⟨#[]⟩ : ByteArray), .int .i64 0] 46 (0, 0))) := ⟨by rw [← hq_]; exact (by (with_reducible repeat (first | refine blk_drewN ?_ _ | refine blk_drew ?_ | refine blk_alloc ?_ _)); exact BK311.out)⟩; have n1_ : Aside0 (Below w.heap.size w wc) := ⟨by rw [← hq_]; exact (by repeat (first | (with_reducible first | exact HB.out | apply below_alloc | apply pw_below_drewN | apply below_drew1 | refine below_set ?_ GE311.out) | exact HB.out))⟩; clear BK311 HB hq_; have BK311 := n0_; have HB := n1_; clear n0_ n1_))) | ((with_reducible refine gate_callee (f := 38) rfl ?_); refine goesL_ (some 108) rfl rfl Tryd.func38 (by kernel_rfl) rfl #[.string (a0.extract (a1 : Int).toNat (x10_37 : Int).toNat), .string (⟨#[103, 101, 116, 108, 105, 110, 101, 32, 115, 121, 115, 116, 101, 109, 32, 99, 108, 111, 115, 101, 32, 102, 102, 108, 117, 115, 104, 32, 115, 121, 115, 116, 105, 109, 101, 32, 115, 116, 114, 102, 116, 105, 109, 101]⟩ : ByteArray)] rfl (by (try simp only [List.map_toArray, List.map_cons, List.map_nil]); first | done | rfl | (simp only [List.length_drop, List.length_take]; rfl)) ?_; (with_reducible refine (scriberef11_among.calls kj56 (a0.extract (a1 : Int).toNat (x10_37 : Int).toNat) (⟨#[103, 101, 116, 108, 105, 110, 101, 32, 115, 121, 115, 116, 101, 109, 32, 99, 108, 111, 115, 101, 32, 102, 102, 108, 117, 115, 104, 32, 115, 121, 115, 116, 105, 109, 101, 32, 115, 116, 114, 102, 116, 105, 109, 101]⟩ : ByteArray) true _ ?side1 A65.out).mono ?_); (case side1 => exact TB.below hT (by repeat (first | (with_reducible first | exact HB.out | apply below_alloc | apply pw_below_drewN | apply below_drew1 | refine below_set ?_ GE311.out) | exact HB.out))); rintro e w' ⟨rfl, ⟨nd, rfl⟩⟩; refine ⟨_, rfl, ?_⟩; (try (rw [drewN_self wc]; generalize hq_ : World.drewN wc _ = wc; have n0_ : Aside0 (wc.heap[gb311]? = some (.cells #[.int .i64 0, .string (⟨#[]⟩ : ByteArray), .int .i64 0] 46 (0, 0))) := ⟨by rw [← hq_]; exact (by (with_reducible repeat (first | refine blk_drewN ?_ _ | refine blk_drew ?_ | refine blk_alloc ?_ _)); exact BK311.out)⟩; have n1_ : Aside0 (Below w.heap.size w wc) := ⟨by rw [← hq_]; exact (by repeat (first | (with_reducible first | exact HB.out | apply below_alloc | apply pw_below_drewN | apply below_drew1 | refine below_set ?_ GE311.out) | exact HB.out))⟩; clear BK311 HB hq_; have BK311 := n0_; have HB := n1_; clear n0_ n1_)); have hcz67_0 : wc.cell? ⟨gb311, 0, none⟩ = some (.int .i64 0) := (blk_cell BK311.out 0).trans rfl; have hcz67_1 : wc.cell? ⟨gb311, 1, none⟩ = some (.string (⟨#[]⟩ : ByteArray)) := (blk_cell BK311.out 1).trans rfl; have hcz67_2 : wc.cell? ⟨gb311, 2, none⟩ = some (.int .i64 0) := (blk_cell BK311.out 2).trans rfl; have hfz67_0 := blk_frozen BK311.out 0; have hfz67_1 := blk_frozen BK311.out 1; have hfz67_2 := blk_frozen BK311.out 2))
                     refine bodyPost_ret (results_ct rfl _ _ gb311 46 #[.int .i64 10, .string (a0.extract (a1 : Int).toNat (x10_37 : Int).toNat), .int .i64 a1] (0, 0) _ rfl (by (with_reducible repeat (first | refine blk_drewN ?_ _ | refine blk_drew ?_ | refine blk_alloc ?_ _)); refine blk_put (cs := #[.int .i64 10, .string (a0.extract (a1 : Int).toNat (x10_37 : Int).toNat), .int .i64 0]) ?_ 2 _ rfl; (with_reducible repeat (first | refine blk_drewN ?_ _ | refine blk_drew ?_ | refine blk_alloc ?_ _)); refine blk_put (cs := #[.int .i64 10, .string (⟨#[]⟩ : ByteArray), .int .i64 0]) ?_ 1 _ rfl; (with_reducible repeat (first | refine blk_drewN ?_ _ | refine blk_drew ?_ | refine blk_alloc ?_ _)); refine blk_put (cs := #[.int .i64 0, .string (⟨#[]⟩ : ByteArray), .int .i64 0]) ?_ 0 _ rfl; (with_reducible repeat (first | refine blk_drewN ?_ _ | refine blk_drew ?_ | refine blk_alloc ?_ _)); exact BK311.out) Tryd.underlying46 rfl (by kernel_rfl)) rfl ?_
                     exact ⟨by first | rfl | (simp [errW_none, errW_some] <;> rfl) | (simp [errW_none, errW_some] <;> first | rfl | exact isEmpty_bne _) | (simp [*, errW_none, errW_some] <;> rfl), by repeat (first | (with_reducible first | exact HB.out | apply below_alloc | apply pw_below_drewN | apply below_drew1 | refine below_set ?_ GE311.out) | exact HB.out)⟩
                    ·replace c66 := Bool.eq_false_iff.mpr c66
                     subst c66
                     have H1 : (some (x12_56, (a0.extract (a1 : Int).toNat (x10_37 : Int).toNat), a1, x10_37)) = some (r1, r2, r3, r4) := by rw [if_neg (show ¬ (false = true) by decide)] at H; exact H
                     clear H
                     have H := H1
                     clear H1
                     simp only [Option.some.injEq, Prod.mk.injEq] at H
                     obtain ⟨rfl, rfl, rfl, rfl⟩ := H
                     go_wp2_with (first | ((with_reducible refine gate_callee (f := 38) rfl ?_); refine goesL_ (some 106) rfl rfl Tryd.func38 (by kernel_rfl) rfl #[.string (a0.extract (a1 : Int).toNat (x10_37 : Int).toNat), .string (⟨#[108, 101, 110, 103, 116, 104, 32, 115, 117, 98, 115, 116, 114, 32, 105, 110, 100, 101, 120, 32, 115, 112, 108, 105, 116, 32, 115, 117, 98, 32, 103, 115, 117, 98, 32, 109, 97, 116, 99, 104, 32, 116, 111, 108, 111, 119, 101, 114, 32, 116, 111, 117, 112, 112, 101, 114, 32, 105, 110, 116, 32, 115, 112, 114, 105, 110, 116, 102, 32, 114, 97, 110, 100, 32, 115, 114, 97, 110, 100]⟩ : ByteArray)] rfl (by (try simp only [List.map_toArray, List.map_cons, List.map_nil]); first | done | rfl | (simp only [List.length_drop, List.length_take]; rfl)) ?_; (with_reducible refine (scriberef11_among.calls kj56 (a0.extract (a1 : Int).toNat (x10_37 : Int).toNat) (⟨#[108, 101, 110, 103, 116, 104, 32, 115, 117, 98, 115, 116, 114, 32, 105, 110, 100, 101, 120, 32, 115, 112, 108, 105, 116, 32, 115, 117, 98, 32, 103, 115, 117, 98, 32, 109, 97, 116, 99, 104, 32, 116, 111, 108, 111, 119, 101, 114, 32, 116, 111, 117, 112, 112, 101, 114, 32, 105, 110, 116, 32, 115, 112, 114, 105, 110, 116, 102, 32, 114, 97, 110, 100, 32, 115, 114, 97, 110, 100]⟩ : ByteArray) false _ ?side1 A59.out).mono ?_); (case side1 => exact TB.below hT (by repeat (first | (with_reducible first | exact HB.out | apply below_alloc | apply pw_below_drewN | apply below_drew1 | refine below_set ?_ GE311.out) | exact HB.out))); rintro e w' ⟨rfl, ⟨nd, rfl⟩⟩; refine ⟨_, rfl, ?_⟩; (try (rw [drewN_self wc]; generalize hq_ : World.drewN wc _ = wc; have n0_ : Aside0 (wc.heap[gb311]? = some (.cells #[.int .i64 0, .string (⟨#[]⟩ : ByteArray), .int .i64 0] 46 (0, 0))) := ⟨by rw [← hq_]; exact (by (with_reducible repeat (first | refine blk_drewN ?_ _ | refine blk_drew ?_ | refine blk_alloc ?_ _)); exact BK311.out)⟩; have n1_ : Aside0 (Below w.heap.size w wc) := ⟨by rw [← hq_]; exact (by repeat (first | (with_reducible first | exact HB.out | apply below_alloc | apply pw_below_drewN | apply below_drew1 | refine below_set ?_ GE311.out) | exact HB.out))⟩; clear BK311 HB hq_; have BK311 := n0_; have HB := n1_; clear n0_ n1_))) | ((with_reducible refine gate_callee (f := 38) rfl ?_); refine goesL_ (some 108) rfl rfl Tryd.func38 (by kernel_rfl) rfl #[.string (a0.extract (a1 : Int).toNat (x10_37 : Int).toNat), .string (⟨#[103, 101, 116, 108, 105, 110, 101, 32, 115, 121, 115, 116, 101, 109, 32, 99, 108, 111, 115, 101, 32, 102, 102, 108, 117, 115, 104, 32, 115, 121, 115, 116, 105, 109, 101, 32, 115, 116, 114, 102, 116, 105, 109, 101]⟩ : ByteArray)] rfl (by (try simp only [List.map_toArray, List.map_cons, List.map_nil]); first | done | rfl | (simp only [List.length_drop, List.length_take]; rfl)) ?_; (with_reducible refine (scriberef11_among.calls kj56 (a0.extract (a1 : Int).toNat (x10_37 : Int).toNat) (⟨#[103, 101, 116, 108, 105, 110, 101, 32, 115, 121, 115, 116, 101, 109, 32, 99, 108, 111, 115, 101, 32, 102, 102, 108, 117, 115, 104, 32, 115, 121, 115, 116, 105, 109, 101, 32, 115, 116, 114, 102, 116, 105, 109, 101]⟩ : ByteArray) false _ ?side1 A65.out).mono ?_); (case side1 => exact TB.below hT (by repeat (first | (with_reducible first | exact HB.out | apply below_alloc | apply pw_below_drewN | apply below_drew1 | refine below_set ?_ GE311.out) | exact HB.out))); rintro e w' ⟨rfl, ⟨nd, rfl⟩⟩; refine ⟨_, rfl, ?_⟩; (try (rw [drewN_self wc]; generalize hq_ : World.drewN wc _ = wc; have n0_ : Aside0 (wc.heap[gb311]? = some (.cells #[.int .i64 0, .string (⟨#[]⟩ : ByteArray), .int .i64 0] 46 (0, 0))) := ⟨by rw [← hq_]; exact (by (with_reducible repeat (first | refine blk_drewN ?_ _ | refine blk_drew ?_ | refine blk_alloc ?_ _)); exact BK311.out)⟩; have n1_ : Aside0 (Below w.heap.size w wc) := ⟨by rw [← hq_]; exact (by repeat (first | (with_reducible first | exact HB.out | apply below_alloc | apply pw_below_drewN | apply below_drew1 | refine below_set ?_ GE311.out) | exact HB.out))⟩; clear BK311 HB hq_; have BK311 := n0_; have HB := n1_; clear n0_ n1_)); have hcz68_0 : wc.cell? ⟨gb311, 0, none⟩ = some (.int .i64 0) := (blk_cell BK311.out 0).trans rfl; have hcz68_1 : wc.cell? ⟨gb311, 1, none⟩ = some (.string (⟨#[]⟩ : ByteArray)) := (blk_cell BK311.out 1).trans rfl; have hcz68_2 : wc.cell? ⟨gb311, 2, none⟩ = some (.int .i64 0) := (blk_cell BK311.out 2).trans rfl; have hfz68_0 := blk_frozen BK311.out 0; have hfz68_1 := blk_frozen BK311.out 1; have hfz68_2 := blk_frozen BK311.out 2))
                     refine bodyPost_ret (results_ct rfl _ _ gb311 46 #[.int .i64 x12_56, .string (a0.extract (a1 : Int).toNat (x10_37 : Int).toNat), .int .i64 a1] (0, 0) _ rfl (by (with_reducible repeat (first | refine blk_drewN ?_ _ | refine blk_drew ?_ | refine blk_alloc ?_ _)); refine blk_put (cs := #[.int .i64 x12_56, .string (a0.extract (a1 : Int).toNat (x10_37 : Int).toNat), .int .i64 0]) ?_ 2 _ rfl; (with_reducible repeat (first | refine blk_drewN ?_ _ | refine blk_drew ?_ | refine blk_alloc ?_ _)); refine blk_put (cs := #[.int .i64 x12_56, .string (⟨#[]⟩ : ByteArray), .int .i64 0]) ?_ 1 _ rfl; (with_reducible repeat (first | refine blk_drewN ?_ _ | refine blk_drew ?_ | refine blk_alloc ?_ _)); refine blk_put (cs := #[.int .i64 0, .string (⟨#[]⟩ : ByteArray), .int .i64 0]) ?_ 0 _ rfl; (with_reducible repeat (first | refine blk_drewN ?_ _ | refine blk_drew ?_ | refine blk_alloc ?_ _)); exact BK311.out) Tryd.underlying46 rfl (by kernel_rfl)) rfl ?_
                     exact ⟨by first | rfl | (simp [errW_none, errW_some] <;> rfl) | (simp [errW_none, errW_some] <;> first | rfl | exact isEmpty_bne _) | (simp [*, errW_none, errW_some] <;> rfl), by repeat (first | (with_reducible first | exact HB.out | apply below_alloc | apply pw_below_drewN | apply below_drew1 | refine below_set ?_ GE311.out) | exact HB.out)⟩
            ·rw [if_neg c49] at H
             exact absurd H (by simp)
           ·rw [if_neg c48] at H
            exact absurd H (by simp)
          ·rw [if_neg c47] at H
           exact absurd H (by simp)
       ·replace c37 := Bool.eq_false_iff.mpr c37
        subst c37
        have H1 : (if (bt a0 a1) = 34 then ((scriberef11_quoted.f kj9 a0 a1 34 false).bind fun bt323 => (some (3, bt323.1, a1, bt323.2))) else (if (bt a0 a1) = 47 then ((scriberef11_pattern.f kj9 l2).bind fun t325 => (scriberef11_one.j6 kj9 a0 a1 t325)) else (scriberef11_one.j6 kj9 a0 a1 false))) = some (r1, r2, r3, r4) := by rw [if_neg (show ¬ (false = true) by decide)] at H; exact H
        clear H
        have H := H1
        clear H1
        by_cases c69 : (bt a0 a1) = 34
        ·rw [if_pos c69] at H
         have c69b0 : ((bt a0 a1) == 34) = true := beq_iff_eq.mpr c69
         have c69b1 : ((bt a0 a1) != 34) = false := bne_eq_false_iff_eq.mpr c69
         clear c69
         replace H := Option.bind_eq_some_iff.mp H
         obtain ⟨⟨t323, t324⟩, A700, H⟩ := H
         replace H : (some (3, t323, a1, t324)) = some (r1, r2, r3, r4) := H
         have A70 := Aside0.mk A700
         clear A700
         simp only [Option.some.injEq, Prod.mk.injEq] at H
         obtain ⟨rfl, rfl, rfl, rfl⟩ := H
         go_wp2_with (first | ((with_reducible refine gate_callee (f := 37) rfl ?_); refine goesL_ (some 69) rfl rfl Tryd.func37 (by kernel_rfl) rfl #[.int .u8 (bt a0 a1)] rfl (by (try simp only [List.map_toArray, List.map_cons, List.map_nil]); first | done | rfl | (simp only [List.length_drop, List.length_take]; rfl)) ?_; (with_reducible refine (scriberef11_letter.calls (bt a0 a1) false _ ?side1 A36.out).mono ?_); (case side1 => exact TB.below hT (by repeat (first | (with_reducible first | exact HB.out | apply below_alloc | apply pw_below_drewN | apply below_drew1 | refine below_set ?_ GE311.out) | exact HB.out))); rintro e w' ⟨rfl, ⟨nd, rfl⟩⟩; refine ⟨_, rfl, ?_⟩; (try (rw [drewN_self wc]; generalize hq_ : World.drewN wc _ = wc; have n0_ : Aside0 (wc.heap[gb311]? = some (.cells #[.int .i64 0, .string (⟨#[]⟩ : ByteArray), .int .i64 0] 46 (0, 0))) := ⟨by rw [← hq_]; exact (by (with_reducible repeat (first | refine blk_drewN ?_ _ | refine blk_drew ?_ | refine blk_alloc ?_ _)); exact BK311.out)⟩; have n1_ : Aside0 (Below w.heap.size w wc) := ⟨by rw [← hq_]; exact (by repeat (first | (with_reducible first | exact HB.out | apply below_alloc | apply pw_below_drewN | apply below_drew1 | refine below_set ?_ GE311.out) | exact HB.out))⟩; clear BK311 HB hq_; have BK311 := n0_; have HB := n1_; clear n0_ n1_))) | ((with_reducible refine gate_callee (f := 39) rfl ?_); refine goesL_ (some 119) rfl rfl Tryd.func39 (by kernel_rfl) rfl #[.string a0, .int .i64 a1, .int .u8 34, .bool false] rfl (by (try simp only [List.map_toArray, List.map_cons, List.map_nil]); first | done | rfl | (simp only [List.length_drop, List.length_take]; rfl)) ?_; (with_reducible refine (scriberef11_quoted.calls kj9 a0 a1 34 false t323 t324 _ ?side1 A70.out).mono ?_); (case side1 => exact TB.below hT (by repeat (first | (with_reducible first | exact HB.out | apply below_alloc | apply pw_below_drewN | apply below_drew1 | refine below_set ?_ GE311.out) | exact HB.out))); rintro e w71 ⟨rfl, hb⟩; refine ⟨_, rfl, ?_⟩; have n0_ := Aside0.mk (blk_below (g := gb311) (o := .cells #[.int .i64 0, .string (⟨#[]⟩ : ByteArray), .int .i64 0] 46 (0, 0)) (by (with_reducible repeat (first | refine blk_drewN ?_ _ | refine blk_drew ?_ | refine blk_alloc ?_ _)); exact BK311.out) hb); have n1_ := Aside0.mk (below_step (by repeat (first | (with_reducible first | exact HB.out | apply below_alloc | apply pw_below_drewN | apply below_drew1 | refine below_set ?_ GE311.out) | exact HB.out)) hb); clear BK311; clear HB; have BK311 := n0_; have HB := n1_; clear n0_ n1_; (try clear hb); (try clear hb2); (try clear hk); (try clear hi); have hcz72_0 : w71.cell? ⟨gb311, 0, none⟩ = some (.int .i64 0) := (blk_cell BK311.out 0).trans rfl; have hcz72_1 : w71.cell? ⟨gb311, 1, none⟩ = some (.string (⟨#[]⟩ : ByteArray)) := (blk_cell BK311.out 1).trans rfl; have hcz72_2 : w71.cell? ⟨gb311, 2, none⟩ = some (.int .i64 0) := (blk_cell BK311.out 2).trans rfl; have hfz72_0 := blk_frozen BK311.out 0; have hfz72_1 := blk_frozen BK311.out 1; have hfz72_2 := blk_frozen BK311.out 2))
         refine bodyPost_ret (results_ct rfl _ _ gb311 46 #[.int .i64 3, .string t323, .int .i64 a1] (0, 0) _ rfl (by (with_reducible repeat (first | refine blk_drewN ?_ _ | refine blk_drew ?_ | refine blk_alloc ?_ _)); refine blk_put (cs := #[.int .i64 3, .string t323, .int .i64 0]) ?_ 2 _ rfl; (with_reducible repeat (first | refine blk_drewN ?_ _ | refine blk_drew ?_ | refine blk_alloc ?_ _)); refine blk_put (cs := #[.int .i64 3, .string (⟨#[]⟩ : ByteArray), .int .i64 0]) ?_ 1 _ rfl; (with_reducible repeat (first | refine blk_drewN ?_ _ | refine blk_drew ?_ | refine blk_alloc ?_ _)); refine blk_put (cs := #[.int .i64 0, .string (⟨#[]⟩ : ByteArray), .int .i64 0]) ?_ 0 _ rfl; (with_reducible repeat (first | refine blk_drewN ?_ _ | refine blk_drew ?_ | refine blk_alloc ?_ _)); exact BK311.out) Tryd.underlying46 rfl (by kernel_rfl)) rfl ?_
         exact ⟨by first | rfl | (simp [errW_none, errW_some] <;> rfl) | (simp [errW_none, errW_some] <;> first | rfl | exact isEmpty_bne _) | (simp [*, errW_none, errW_some] <;> rfl), by repeat (first | (with_reducible first | exact HB.out | apply below_alloc | apply pw_below_drewN | apply below_drew1 | refine below_set ?_ GE311.out) | exact HB.out)⟩
        ·rw [if_neg c69] at H
         have c69b0 : ((bt a0 a1) == 34) = false := beq_eq_false_iff_ne.mpr c69
         have c69b1 : ((bt a0 a1) != 34) = true := bne_iff_ne.mpr c69
         have HC73 := Aside0.mk H
         clear H
         go_upto_region 27 with (first | ((with_reducible refine gate_callee (f := 37) rfl ?_); refine goesL_ (some 69) rfl rfl Tryd.func37 (by kernel_rfl) rfl #[.int .u8 (bt a0 a1)] rfl (by (try simp only [List.map_toArray, List.map_cons, List.map_nil]); first | done | rfl | (simp only [List.length_drop, List.length_take]; rfl)) ?_; (with_reducible refine (scriberef11_letter.calls (bt a0 a1) false _ ?side1 A36.out).mono ?_); (case side1 => exact TB.below hT (by repeat (first | (with_reducible first | exact HB.out | apply below_alloc | apply pw_below_drewN | apply below_drew1 | refine below_set ?_ GE311.out) | exact HB.out))); rintro e w' ⟨rfl, ⟨nd, rfl⟩⟩; refine ⟨_, rfl, ?_⟩))
         (try simp only [Act.put, List.setIfInBounds_toArray, List.set_cons_zero, List.set_cons_succ])
         go_cut [131] (fun v131 wc => ∃ (kq : Nat) (x131_72 : Bool), v131 = .bool x131_72 ∧ Aside0 (scriberef11_one.j6 kq a0 a1 x131_72 = some (r1, r2, r3, r4)) ∧ Aside0 (kq ≤ kj9) ∧ Aside0 (wc.heap[gb311]? = some (.cells #[.int .i64 0, .string (⟨#[]⟩ : ByteArray), .int .i64 0] 46 (0, 0))) ∧ Aside0 (Below w.heap.size w wc))
         case first =>
          have H := HC73.out
          clear HC73
          by_cases c74 : (bt a0 a1) = 47
          ·rw [if_pos c74] at H
           have c74b0 : ((bt a0 a1) == 47) = true := beq_iff_eq.mpr c74
           have c74b1 : ((bt a0 a1) != 47) = false := bne_eq_false_iff_eq.mpr c74
           clear c74
           (first | rw [c74b0] | (simp only [i64_w, i32_w]; rw [c74b0]) | skip)
           replace H := Option.bind_eq_some_iff.mp H
           obtain ⟨t325, A750, H⟩ := H
           replace H : (scriberef11_one.j6 kj9 a0 a1 t325) = some (r1, r2, r3, r4) := H
           have A75 := Aside0.mk A750
           clear A750
           have H' := Aside0.mk H
           clear H
           go_wp2_with (first | (go_at_call 40; (with_reducible refine (scriberef11_pattern.calls kj9 _ _ l2 t325 _ ?side1 ?side2 ?side3 A75.out).mono ?_); (case side1 => repeat (first | exact (Kd.C_below HR2.out HB.out) | (with_reducible refine Kd.C_alloc ?_ _) | (with_reducible refine Kd.C_drewN ?_ _) | (with_reducible refine Kd.C_drew ?_))); (case side2 => exact HC2.out); (case side3 => exact TB.below hT (by repeat (first | (with_reducible first | exact HB.out | apply below_alloc | apply pw_below_drewN | apply below_drew1 | refine below_set ?_ GE311.out) | exact HB.out))); rintro e w76 ⟨rfl, hb⟩; have n0_ := Aside0.mk (blk_below (g := gb311) (o := .cells #[.int .i64 0, .string (⟨#[]⟩ : ByteArray), .int .i64 0] 46 (0, 0)) (by (with_reducible repeat (first | refine blk_drewN ?_ _ | refine blk_drew ?_ | refine blk_alloc ?_ _)); exact BK311.out) hb); have n1_ := Aside0.mk (below_step (by repeat (first | (with_reducible first | exact HB.out | apply below_alloc | apply pw_below_drewN | apply below_drew1 | refine below_set ?_ GE311.out) | exact HB.out)) hb); clear BK311; clear HB; have BK311 := n0_; have HB := n1_; clear n0_ n1_; (try clear hb); (try clear hb2); (try clear hk); (try clear hi)))
           go_meet
           case rel => exact ⟨_, (t325), (by first | rfl | (simp; done) | (simp [*]; done) | (simp; unfold wrap64; omega)), H', ⟨by have := HJ9.out; first | omega | exact Nat.le_refl _⟩, ⟨by (with_reducible repeat (first | refine blk_drewN ?_ _ | refine blk_drew ?_ | refine blk_alloc ?_ _)); exact BK311.out⟩, ⟨by repeat (first | (with_reducible first | exact HB.out | apply below_alloc | apply pw_below_drewN | apply below_drew1 | refine below_set ?_ GE311.out) | exact HB.out)⟩⟩
          ·rw [if_neg c74] at H
           have c74b0 : ((bt a0 a1) == 47) = false := beq_eq_false_iff_ne.mpr c74
           have c74b1 : ((bt a0 a1) != 47) = true := bne_iff_ne.mpr c74
           (first | rw [c74b0] | (simp only [i64_w, i32_w]; rw [c74b0]) | skip)
           have H' := Aside0.mk H
           clear H
           go_wp2
           go_meet
           case rel => exact ⟨_, (false), (by first | rfl | (simp; done) | (simp [*]; done) | (simp; unfold wrap64; omega)), H', ⟨by have := HJ9.out; first | omega | exact Nat.le_refl _⟩, ⟨by (with_reducible repeat (first | refine blk_drewN ?_ _ | refine blk_drew ?_ | refine blk_alloc ?_ _)); exact BK311.out⟩, ⟨by repeat (first | (with_reducible first | exact HB.out | apply below_alloc | apply pw_below_drewN | apply below_drew1 | refine below_set ?_ GE311.out) | exact HB.out)⟩⟩
         case rest =>
          clear HC73
          try clear c1
          try clear c2
          try clear p2
          try clear q2
          try clear hx2
          try clear c3
          try clear c4
          try clear c4b0
          try clear p4
          try clear q4
          try clear hx4
          try clear c5
          try clear c5b0
          try clear p5
          try clear q5
          try clear hx5
          try clear c6
          try clear p6
          try clear q6
          try clear hx6
          try clear c7
          try clear c7b0
          try clear c7b1
          try clear c13
          try clear c14
          try clear c14b0
          try clear c14b1
          try clear c16
          try clear c18
          try clear c18b0
          try clear c19
          try clear c20
          try clear c20b0
          try clear p21
          try clear q21
          try clear hx21
          try clear c22
          try clear c22b0
          try clear c22b1
          try clear c24
          try clear c24b0
          try clear c24b1
          try clear c25
          try clear c25b0
          try clear c25b1
          try clear c26
          try clear c26b0
          try clear c26b1
          try clear c28
          try clear c28b0
          try clear c28b1
          try clear c29
          try clear c29b0
          try clear c29b1
          try clear c30
          try clear c30b0
          try clear c30b1
          try clear c32
          try clear c32b0
          try clear c32b1
          try clear c33
          try clear c33b0
          try clear c33b1
          try clear c34
          try clear c34b0
          try clear c34b1
          try clear c35
          try clear c36
          try clear c37
          try clear c38
          try clear c39
          try clear c39b0
          try clear c40
          try clear c40b0
          try clear p41
          try clear q41
          try clear hx41
          try clear c43
          try clear p44
          try clear q44
          try clear hx44
          try clear c46
          try clear c47
          try clear c47b0
          try clear c47b1
          try clear c48
          try clear c48b0
          try clear c48b1
          try clear c49
          try clear c49b0
          try clear c49b1
          try clear c51
          try clear c51b0
          try clear c52
          try clear c52b0
          try clear p53
          try clear q53
          try clear hx53
          try clear c55
          try clear c58
          try clear c60
          try clear c62
          try clear p64
          try clear c66
          try clear c69
          try clear c69b0
          try clear c69b1
          try clear c74
          try clear c74b0
          try clear c74b1
          try clear hcz27_0
          try clear hcz27_1
          try clear hcz27_2
          try clear hcz31_0
          try clear hcz31_1
          try clear hcz31_2
          try clear hcz35_0
          try clear hcz35_1
          try clear hcz35_2
          try clear hcz63_0
          try clear hcz63_1
          try clear hcz63_2
          try clear hcz64_0
          try clear hcz64_1
          try clear hcz64_2
          try clear hcz67_0
          try clear hcz67_1
          try clear hcz67_2
          try clear hcz68_0
          try clear hcz68_1
          try clear hcz68_2
          try clear hcz72_0
          try clear hcz72_1
          try clear hcz72_2
          try clear hcz9_0
          try clear hcz9_1
          try clear hcz9_2
          try clear hfz27_0
          try clear hfz27_1
          try clear hfz27_2
          try clear hfz31_0
          try clear hfz31_1
          try clear hfz31_2
          try clear hfz35_0
          try clear hfz35_1
          try clear hfz35_2
          try clear hfz63_0
          try clear hfz63_1
          try clear hfz63_2
          try clear hfz64_0
          try clear hfz64_1
          try clear hfz64_2
          try clear hfz67_0
          try clear hfz67_1
          try clear hfz67_2
          try clear hfz68_0
          try clear hfz68_1
          try clear hfz68_2
          try clear hfz72_0
          try clear hfz72_1
          try clear hfz72_2
          try clear hfz9_0
          try clear hfz9_1
          try clear hfz9_2
          try clear p2
          try clear p21
          try clear p4
          try clear p41
          try clear p44
          try clear p5
          try clear p53
          try clear p6
          try clear q2
          try clear q21
          try clear q4
          try clear q41
          try clear q44
          try clear q5
          try clear q53
          try clear q6
          obtain ⟨kq, x131_72, rfl, HA, HJ72, BK311, HB⟩ := hcut
          cases kq with
          | zero => exact absurd HA.out (by simp [scriberef11_one.j6])
          | succ kj72 =>
           have H := HA.out
           clear HA
           simp only [scriberef11_one.j6] at H
           by_cases c77 : x131_72 = true
           ·subst c77
            have H1 : ((scriberef11_quoted.f kj72 a0 a1 47 true).bind fun bt326 => (some (4, bt326.1, a1, bt326.2))) = some (r1, r2, r3, r4) := by rw [if_pos rfl] at H; exact H
            clear H
            have H := H1
            clear H1
            replace H := Option.bind_eq_some_iff.mp H
            obtain ⟨⟨t326, t327⟩, A780, H⟩ := H
            replace H : (some (4, t326, a1, t327)) = some (r1, r2, r3, r4) := H
            have A78 := Aside0.mk A780
            clear A780
            simp only [Option.some.injEq, Prod.mk.injEq] at H
            obtain ⟨rfl, rfl, rfl, rfl⟩ := H
            go_wp2_with (first | ((with_reducible refine gate_callee (f := 39) rfl ?_); refine goesL_ (some 135) rfl rfl Tryd.func39 (by kernel_rfl) rfl #[.string a0, .int .i64 a1, .int .u8 47, .bool true] rfl (by (try simp only [List.map_toArray, List.map_cons, List.map_nil]); first | done | rfl | (simp only [List.length_drop, List.length_take]; rfl)) ?_; (with_reducible refine (scriberef11_quoted.calls kj72 a0 a1 47 true t326 t327 _ ?side1 A78.out).mono ?_); (case side1 => exact TB.below hT (by repeat (first | (with_reducible first | exact HB.out | apply below_alloc | apply pw_below_drewN | apply below_drew1 | refine below_set ?_ GE311.out) | exact HB.out))); rintro e w79 ⟨rfl, hb⟩; refine ⟨_, rfl, ?_⟩; have n0_ := Aside0.mk (blk_below (g := gb311) (o := .cells #[.int .i64 0, .string (⟨#[]⟩ : ByteArray), .int .i64 0] 46 (0, 0)) (by (with_reducible repeat (first | refine blk_drewN ?_ _ | refine blk_drew ?_ | refine blk_alloc ?_ _)); exact BK311.out) hb); have n1_ := Aside0.mk (below_step (by repeat (first | (with_reducible first | exact HB.out | apply below_alloc | apply pw_below_drewN | apply below_drew1 | refine below_set ?_ GE311.out) | exact HB.out)) hb); clear BK311; clear HB; have BK311 := n0_; have HB := n1_; clear n0_ n1_; (try clear hb); (try clear hb2); (try clear hk); (try clear hi); have hcz80_0 : w79.cell? ⟨gb311, 0, none⟩ = some (.int .i64 0) := (blk_cell BK311.out 0).trans rfl; have hcz80_1 : w79.cell? ⟨gb311, 1, none⟩ = some (.string (⟨#[]⟩ : ByteArray)) := (blk_cell BK311.out 1).trans rfl; have hcz80_2 : w79.cell? ⟨gb311, 2, none⟩ = some (.int .i64 0) := (blk_cell BK311.out 2).trans rfl; have hfz80_0 := blk_frozen BK311.out 0; have hfz80_1 := blk_frozen BK311.out 1; have hfz80_2 := blk_frozen BK311.out 2))
            refine bodyPost_ret (results_ct rfl _ _ gb311 46 #[.int .i64 4, .string t326, .int .i64 a1] (0, 0) _ rfl (by (with_reducible repeat (first | refine blk_drewN ?_ _ | refine blk_drew ?_ | refine blk_alloc ?_ _)); refine blk_put (cs := #[.int .i64 4, .string t326, .int .i64 0]) ?_ 2 _ rfl; (with_reducible repeat (first | refine blk_drewN ?_ _ | refine blk_drew ?_ | refine blk_alloc ?_ _)); refine blk_put (cs := #[.int .i64 4, .string (⟨#[]⟩ : ByteArray), .int .i64 0]) ?_ 1 _ rfl; (with_reducible repeat (first | refine blk_drewN ?_ _ | refine blk_drew ?_ | refine blk_alloc ?_ _)); refine blk_put (cs := #[.int .i64 0, .string (⟨#[]⟩ : ByteArray), .int .i64 0]) ?_ 0 _ rfl; (with_reducible repeat (first | refine blk_drewN ?_ _ | refine blk_drew ?_ | refine blk_alloc ?_ _)); exact BK311.out) Tryd.underlying46 rfl (by kernel_rfl)) rfl ?_
            exact ⟨by first | rfl | (simp [errW_none, errW_some] <;> rfl) | (simp [errW_none, errW_some] <;> first | rfl | exact isEmpty_bne _) | (simp [*, errW_none, errW_some] <;> rfl), by repeat (first | (with_reducible first | exact HB.out | apply below_alloc | apply pw_below_drewN | apply below_drew1 | refine below_set ?_ GE311.out) | exact HB.out)⟩
           ·replace c77 := Bool.eq_false_iff.mpr c77
            subst c77
            have H1 : (if (wrap64 (a1 + 1)) < (a0.size : Int) then (if 0 ≤ a1 then (if a1 ≤ (wrap64 (a1 + 2)) then (if (wrap64 (a1 + 2)) ≤ (a0.size : Int) then ((scriberef11_among.f kj72 (a0.extract (a1 : Int).toNat ((wrap64 (a1 + 2)) : Int).toNat) (⟨#[43, 61, 32, 45, 61, 32, 42, 61, 32, 47, 61, 32, 37, 61, 32, 61, 61, 32, 60, 61, 32, 62, 61, 32, 33, 61, 32, 43, 43, 32, 45, 45, 32, 38, 38, 32, 124, 124, 32, 62, 62, 32, 33, 126]⟩ : ByteArray)).bind fun t328 => (scriberef11_one.j7 kj72 a0 a1 t328)) else (none)) else (none)) else (none)) else (scriberef11_one.j7 kj72 a0 a1 false)) = some (r1, r2, r3, r4) := by rw [if_neg (show ¬ (false = true) by decide)] at H; exact H
            clear H
            have H := H1
            clear H1
            have HC81 := Aside0.mk H
            clear H
            go_upto_region 30 with (fail)
            go_cut [154] (fun v154 wc => ∃ (kq : Nat) (x154_80 : Bool), v154 = .bool x154_80 ∧ Aside0 (scriberef11_one.j7 kq a0 a1 x154_80 = some (r1, r2, r3, r4)) ∧ Aside0 (kq ≤ kj72) ∧ Aside0 (wc.heap[gb311]? = some (.cells #[.int .i64 0, .string (⟨#[]⟩ : ByteArray), .int .i64 0] 46 (0, 0))) ∧ Aside0 (Below w.heap.size w wc))
            case first =>
             have H := HC81.out
             clear HC81
             by_cases c82 : (wrap64 (a1 + 1)) < (a0.size : Int)
             ·rw [if_pos c82] at H
              have c82b0 : decide ((wrap64 (a1 + 1)) < (a0.size : Int)) = true := decide_eq_true c82
              clear c82
              (first | rw [c82b0] | (simp only [i64_w, i32_w]; rw [c82b0]) | skip)
              by_cases c83 : 0 ≤ a1
              ·rw [if_pos c83] at H
               have c83b0 := eq_true c83
               have c83b1 : decide (0 ≤ a1) = true := decide_eq_true c83
               clear c83
               by_cases c84 : a1 ≤ (wrap64 (a1 + 2))
               ·rw [if_pos c84] at H
                have c84b0 := eq_true c84
                have c84b1 : decide (a1 ≤ (wrap64 (a1 + 2))) = true := decide_eq_true c84
                by_cases c85 : (wrap64 (a1 + 2)) ≤ (a0.size : Int)
                ·rw [if_pos c85] at H
                 have c85b0 := eq_true c85
                 have c85b1 : decide ((wrap64 (a1 + 2)) ≤ (a0.size : Int)) = true := decide_eq_true c85
                 replace H := Option.bind_eq_some_iff.mp H
                 obtain ⟨t328, A860, H⟩ := H
                 replace H : (scriberef11_one.j7 kj72 a0 a1 t328) = some (r1, r2, r3, r4) := H
                 have A86 := Aside0.mk A860
                 clear A860
                 have H' := Aside0.mk H
                 clear H
                 go_wp2_with (first | (go_at_call 38; (with_reducible refine (scriberef11_among.calls kj72 (a0.extract (a1 : Int).toNat ((wrap64 (a1 + 2)) : Int).toNat) (⟨#[43, 61, 32, 45, 61, 32, 42, 61, 32, 47, 61, 32, 37, 61, 32, 61, 61, 32, 60, 61, 32, 62, 61, 32, 33, 61, 32, 43, 43, 32, 45, 45, 32, 38, 38, 32, 124, 124, 32, 62, 62, 32, 33, 126]⟩ : ByteArray) t328 _ ?side1 A86.out).mono ?_); (case side1 => exact TB.below hT (by repeat (first | (with_reducible first | exact HB.out | apply below_alloc | apply pw_below_drewN | apply below_drew1 | refine below_set ?_ GE311.out) | exact HB.out))); rintro e w' ⟨rfl, ⟨nd, rfl⟩⟩))
                 go_meet
                 case rel => exact ⟨_, (t328), (by first | rfl | (simp; done) | (simp [*]; done) | (simp; unfold wrap64; omega)), H', ⟨by have := HJ9.out; have := HJ72.out; first | omega | exact Nat.le_refl _⟩, ⟨by (with_reducible repeat (first | refine blk_drewN ?_ _ | refine blk_drew ?_ | refine blk_alloc ?_ _)); exact BK311.out⟩, ⟨by repeat (first | (with_reducible first | exact HB.out | apply below_alloc | apply pw_below_drewN | apply below_drew1 | refine below_set ?_ GE311.out) | exact HB.out)⟩⟩
                ·rw [if_neg c85] at H
                 exact absurd H (by simp)
               ·rw [if_neg c84] at H
                exact absurd H (by simp)
              ·rw [if_neg c83] at H
               exact absurd H (by simp)
             ·rw [if_neg c82] at H
              have c82b0 : decide ((wrap64 (a1 + 1)) < (a0.size : Int)) = false := decide_eq_false c82
              clear c82
              (first | rw [c82b0] | (simp only [i64_w, i32_w]; rw [c82b0]) | skip)
              have H' := Aside0.mk H
              clear H
              go_wp2
              go_meet
              case rel => exact ⟨_, (false), (by first | rfl | (simp; done) | (simp [*]; done) | (simp; unfold wrap64; omega)), H', ⟨by have := HJ9.out; have := HJ72.out; first | omega | exact Nat.le_refl _⟩, ⟨by (with_reducible repeat (first | refine blk_drewN ?_ _ | refine blk_drew ?_ | refine blk_alloc ?_ _)); exact BK311.out⟩, ⟨by repeat (first | (with_reducible first | exact HB.out | apply below_alloc | apply pw_below_drewN | apply below_drew1 | refine below_set ?_ GE311.out) | exact HB.out)⟩⟩
            case rest =>
             clear HC81
             try clear c1
             try clear c2
             try clear p2
             try clear q2
             try clear hx2
             try clear c3
             try clear c4
             try clear c4b0
             try clear p4
             try clear q4
             try clear hx4
             try clear c5
             try clear c5b0
             try clear p5
             try clear q5
             try clear hx5
             try clear c6
             try clear p6
             try clear q6
             try clear hx6
             try clear c7
             try clear c7b0
             try clear c7b1
             try clear c8
             try clear c13
             try clear c14
             try clear c14b0
             try clear c14b1
             try clear c16
             try clear c18
             try clear c18b0
             try clear c19
             try clear c20
             try clear c20b0
             try clear p21
             try clear q21
             try clear hx21
             try clear c22
             try clear c22b0
             try clear c22b1
             try clear c24
             try clear c24b0
             try clear c24b1
             try clear c25
             try clear c25b0
             try clear c25b1
             try clear c26
             try clear c26b0
             try clear c26b1
             try clear c28
             try clear c28b0
             try clear c28b1
             try clear c29
             try clear c29b0
             try clear c29b1
             try clear c30
             try clear c30b0
             try clear c30b1
             try clear c32
             try clear c32b0
             try clear c32b1
             try clear c33
             try clear c33b0
             try clear c33b1
             try clear c34
             try clear c34b0
             try clear c34b1
             try clear c35
             try clear c36
             try clear c37
             try clear c38
             try clear c39
             try clear c39b0
             try clear c40
             try clear c40b0
             try clear p41
             try clear q41
             try clear hx41
             try clear c43
             try clear p44
             try clear q44
             try clear hx44
             try clear c46
             try clear c47
             try clear c47b0
             try clear c47b1
             try clear c48
             try clear c48b0
             try clear c48b1
             try clear c49
             try clear c49b0
             try clear c49b1
             try clear c51
             try clear c51b0
             try clear c52
             try clear c52b0
             try clear p53
             try clear q53
             try clear hx53
             try clear c55
             try clear c58
             try clear c60
             try clear c62
             try clear p64
             try clear c66
             try clear c69
             try clear c69b0
             try clear c69b1
             try clear c74
             try clear c74b0
             try clear c74b1
             try clear c77
             try clear c82
             try clear c82b0
             try clear c83
             try clear c83b0
             try clear c83b1
             try clear c84
             try clear c84b0
             try clear c84b1
             try clear c85
             try clear c85b0
             try clear c85b1
             try clear hcz27_0
             try clear hcz27_1
             try clear hcz27_2
             try clear hcz31_0
             try clear hcz31_1
             try clear hcz31_2
             try clear hcz35_0
             try clear hcz35_1
             try clear hcz35_2
             try clear hcz63_0
             try clear hcz63_1
             try clear hcz63_2
             try clear hcz64_0
             try clear hcz64_1
             try clear hcz64_2
             try clear hcz67_0
             try clear hcz67_1
             try clear hcz67_2
             try clear hcz68_0
             try clear hcz68_1
             try clear hcz68_2
             try clear hcz72_0
             try clear hcz72_1
             try clear hcz72_2
             try clear hcz80_0
             try clear hcz80_1
             try clear hcz80_2
             try clear hcz9_0
             try clear hcz9_1
             try clear hcz9_2
             try clear hfz27_0
             try clear hfz27_1
             try clear hfz27_2
             try clear hfz31_0
             try clear hfz31_1
             try clear hfz31_2
             try clear hfz35_0
             try clear hfz35_1
             try clear hfz35_2
             try clear hfz63_0
             try clear hfz63_1
             try clear hfz63_2
             try clear hfz64_0
             try clear hfz64_1
             try clear hfz64_2
             try clear hfz67_0
             try clear hfz67_1
             try clear hfz67_2
             try clear hfz68_0
             try clear hfz68_1
             try clear hfz68_2
             try clear hfz72_0
             try clear hfz72_1
             try clear hfz72_2
             try clear hfz80_0
             try clear hfz80_1
             try clear hfz80_2
             try clear hfz9_0
             try clear hfz9_1
             try clear hfz9_2
             try clear p2
             try clear p21
             try clear p4
             try clear p41
             try clear p44
             try clear p5
             try clear p53
             try clear p6
             try clear p64
             try clear q2
             try clear q21
             try clear q4
             try clear q41
             try clear q44
             try clear q5
             try clear q53
             try clear q6
             obtain ⟨kq, x154_80, rfl, HA, HJ80, BK311, HB⟩ := hcut
             cases kq with
             | zero => exact absurd HA.out (by simp [scriberef11_one.j7])
             | succ kj80 =>
              have H := HA.out
              clear HA
              simp only [scriberef11_one.j7] at H
              by_cases c87 : x154_80 = true
              ·subst c87
               have H1 : (if 0 ≤ a1 then (if a1 ≤ (wrap64 (a1 + 2)) then (if (wrap64 (a1 + 2)) ≤ (a0.size : Int) then (some (8, a0.extract (a1 : Int).toNat ((wrap64 (a1 + 2)) : Int).toNat, a1, wrap64 (a1 + 2))) else (none)) else (none)) else (none)) = some (r1, r2, r3, r4) := by rw [if_pos rfl] at H; exact H
               clear H
               have H := H1
               clear H1
               by_cases c88 : 0 ≤ a1
               ·rw [if_pos c88] at H
                have c88b0 := eq_true c88
                have c88b1 : decide (0 ≤ a1) = true := decide_eq_true c88
                clear c88
                by_cases c89 : a1 ≤ (wrap64 (a1 + 2))
                ·rw [if_pos c89] at H
                 have c89b0 := eq_true c89
                 have c89b1 : decide (a1 ≤ (wrap64 (a1 + 2))) = true := decide_eq_true c89
                 by_cases c90 : (wrap64 (a1 + 2)) ≤ (a0.size : Int)
                 ·rw [if_pos c90] at H
                  have c90b0 := eq_true c90
                  have c90b1 : decide ((wrap64 (a1 + 2)) ≤ (a0.size : Int)) = true := decide_eq_true c90
                  simp only [Option.some.injEq, Prod.mk.injEq] at H
                  obtain ⟨rfl, rfl, rfl, rfl⟩ := H
                  have hcz91_0 : wc.cell? ⟨gb311, 0, none⟩ = some (.int .i64 0) := (blk_cell BK311.out 0).trans rfl
                  have hcz91_1 : wc.cell? ⟨gb311, 1, none⟩ = some (.string (⟨#[]⟩ : ByteArray)) := (blk_cell BK311.out 1).trans rfl
                  have hcz91_2 : wc.cell? ⟨gb311, 2, none⟩ = some (.int .i64 0) := (blk_cell BK311.out 2).trans rfl
                  have hfz91_0 := blk_frozen BK311.out 0
                  have hfz91_1 := blk_frozen BK311.out 1
                  have hfz91_2 := blk_frozen BK311.out 2
                  go_wp2
                  refine bodyPost_ret (results_ct rfl _ _ gb311 46 #[.int .i64 8, .string (a0.extract (a1 : Int).toNat ((wrap64 (a1 + 2)) : Int).toNat), .int .i64 a1] (0, 0) _ rfl (by (with_reducible repeat (first | refine blk_drewN ?_ _ | refine blk_drew ?_ | refine blk_alloc ?_ _)); refine blk_put (cs := #[.int .i64 8, .string (a0.extract (a1 : Int).toNat ((wrap64 (a1 + 2)) : Int).toNat), .int .i64 0]) ?_ 2 _ rfl; (with_reducible repeat (first | refine blk_drewN ?_ _ | refine blk_drew ?_ | refine blk_alloc ?_ _)); refine blk_put (cs := #[.int .i64 8, .string (⟨#[]⟩ : ByteArray), .int .i64 0]) ?_ 1 _ rfl; (with_reducible repeat (first | refine blk_drewN ?_ _ | refine blk_drew ?_ | refine blk_alloc ?_ _)); refine blk_put (cs := #[.int .i64 0, .string (⟨#[]⟩ : ByteArray), .int .i64 0]) ?_ 0 _ rfl; (with_reducible repeat (first | refine blk_drewN ?_ _ | refine blk_drew ?_ | refine blk_alloc ?_ _)); exact BK311.out) Tryd.underlying46 rfl (by kernel_rfl)) rfl ?_
                  exact ⟨by first | rfl | (simp [errW_none, errW_some] <;> rfl) | (simp [errW_none, errW_some] <;> first | rfl | exact isEmpty_bne _) | (simp [*, errW_none, errW_some] <;> rfl), by repeat (first | (with_reducible first | exact HB.out | apply below_alloc | apply pw_below_drewN | apply below_drew1 | refine below_set ?_ GE311.out) | exact HB.out)⟩
                 ·rw [if_neg c90] at H
                  exact absurd H (by simp)
                ·rw [if_neg c89] at H
                 exact absurd H (by simp)
               ·rw [if_neg c88] at H
                exact absurd H (by simp)
              ·replace c87 := Bool.eq_false_iff.mpr c87
               subst c87
               have H1 : (if 0 ≤ a1 then (if a1 ≤ (wrap64 (a1 + 1)) then (if (wrap64 (a1 + 1)) ≤ (a0.size : Int) then ((scriberef11_among.f kj80 (a0.extract (a1 : Int).toNat ((wrap64 (a1 + 1)) : Int).toNat) (⟨#[123, 32, 125, 32, 40, 32, 41, 32, 91, 32, 93, 32, 59, 32, 44, 32, 43, 32, 45, 32, 42, 32, 47, 32, 37, 32, 33, 32, 62, 32, 60, 32, 124, 32, 63, 32, 58, 32, 126, 32, 36, 32, 61]⟩ : ByteArray)).bind fun t329 => (if t329 = true then (some (8, a0.extract (a1 : Int).toNat ((wrap64 (a1 + 1)) : Int).toNat, a1, wrap64 (a1 + 1))) else (some (0, (⟨#[]⟩ : ByteArray), 0, (-1))))) else (none)) else (none)) else (none)) = some (r1, r2, r3, r4) := by rw [if_neg (show ¬ (false = true) by decide)] at H; exact H
               clear H
               have H := H1
               clear H1
               by_cases c92 : 0 ≤ a1
               ·rw [if_pos c92] at H
                have c92b0 := eq_true c92
                have c92b1 : decide (0 ≤ a1) = true := decide_eq_true c92
                clear c92
                by_cases c93 : a1 ≤ (wrap64 (a1 + 1))
                ·rw [if_pos c93] at H
                 have c93b0 := eq_true c93
                 have c93b1 : decide (a1 ≤ (wrap64 (a1 + 1))) = true := decide_eq_true c93
                 by_cases c94 : (wrap64 (a1 + 1)) ≤ (a0.size : Int)
                 ·rw [if_pos c94] at H
                  have c94b0 := eq_true c94
                  have c94b1 : decide ((wrap64 (a1 + 1)) ≤ (a0.size : Int)) = true := decide_eq_true c94
                  replace H := Option.bind_eq_some_iff.mp H
                  obtain ⟨t329, A950, H⟩ := H
                  replace H : (if t329 = true then (some (8, a0.extract (a1 : Int).toNat ((wrap64 (a1 + 1)) : Int).toNat, a1, wrap64 (a1 + 1))) else (some (0, (⟨#[]⟩ : ByteArray), 0, (-1)))) = some (r1, r2, r3, r4) := H
                  have A95 := Aside0.mk A950
                  clear A950
                  by_cases c96 : t329 = true
                  ·subst c96
                   have H1 : (some (8, a0.extract (a1 : Int).toNat ((wrap64 (a1 + 1)) : Int).toNat, a1, wrap64 (a1 + 1))) = some (r1, r2, r3, r4) := by rw [if_pos rfl] at H; exact H
                   clear H
                   have H := H1
                   clear H1
                   have c97b0 := eq_true (of_decide_eq_true (by first | (with_reducible assumption) | assumption) : 0 ≤ a1)
                   have c98b0 := eq_true (of_decide_eq_true (by first | (with_reducible assumption) | assumption) : a1 ≤ (wrap64 (a1 + 1)))
                   have c99b0 := eq_true (of_decide_eq_true (by first | (with_reducible assumption) | assumption) : (wrap64 (a1 + 1)) ≤ (a0.size : Int))
                   simp only [Option.some.injEq, Prod.mk.injEq] at H
                   obtain ⟨rfl, rfl, rfl, rfl⟩ := H
                   go_wp2_with (first | ((with_reducible refine gate_callee (f := 38) rfl ?_); refine goesL_ (some 169) rfl rfl Tryd.func38 (by kernel_rfl) rfl #[.string (a0.extract (a1 : Int).toNat ((wrap64 (a1 + 1)) : Int).toNat), .string (⟨#[123, 32, 125, 32, 40, 32, 41, 32, 91, 32, 93, 32, 59, 32, 44, 32, 43, 32, 45, 32, 42, 32, 47, 32, 37, 32, 33, 32, 62, 32, 60, 32, 124, 32, 63, 32, 58, 32, 126, 32, 36, 32, 61]⟩ : ByteArray)] rfl (by (try simp only [List.map_toArray, List.map_cons, List.map_nil]); first | done | rfl | (simp only [List.length_drop, List.length_take]; rfl)) ?_; (with_reducible refine (scriberef11_among.calls kj80 (a0.extract (a1 : Int).toNat ((wrap64 (a1 + 1)) : Int).toNat) (⟨#[123, 32, 125, 32, 40, 32, 41, 32, 91, 32, 93, 32, 59, 32, 44, 32, 43, 32, 45, 32, 42, 32, 47, 32, 37, 32, 33, 32, 62, 32, 60, 32, 124, 32, 63, 32, 58, 32, 126, 32, 36, 32, 61]⟩ : ByteArray) true _ ?side1 A95.out).mono ?_); (case side1 => exact TB.below hT (by repeat (first | (with_reducible first | exact HB.out | apply below_alloc | apply pw_below_drewN | apply below_drew1 | refine below_set ?_ GE311.out) | exact HB.out))); rintro e w' ⟨rfl, ⟨nd, rfl⟩⟩; refine ⟨_, rfl, ?_⟩; (try (rw [drewN_self wc]; generalize hq_ : World.drewN wc _ = wc; have n0_ : Aside0 (wc.heap[gb311]? = some (.cells #[.int .i64 0, .string (⟨#[]⟩ : ByteArray), .int .i64 0] 46 (0, 0))) := ⟨by rw [← hq_]; exact (by (with_reducible repeat (first | refine blk_drewN ?_ _ | refine blk_drew ?_ | refine blk_alloc ?_ _)); exact BK311.out)⟩; have n1_ : Aside0 (Below w.heap.size w wc) := ⟨by rw [← hq_]; exact (by repeat (first | (with_reducible first | exact HB.out | apply below_alloc | apply pw_below_drewN | apply below_drew1 | refine below_set ?_ GE311.out) | exact HB.out))⟩; clear BK311 HB hq_; have BK311 := n0_; have HB := n1_; clear n0_ n1_)); have hcz100_0 : wc.cell? ⟨gb311, 0, none⟩ = some (.int .i64 0) := (blk_cell BK311.out 0).trans rfl; have hcz100_1 : wc.cell? ⟨gb311, 1, none⟩ = some (.string (⟨#[]⟩ : ByteArray)) := (blk_cell BK311.out 1).trans rfl; have hcz100_2 : wc.cell? ⟨gb311, 2, none⟩ = some (.int .i64 0) := (blk_cell BK311.out 2).trans rfl; have hfz100_0 := blk_frozen BK311.out 0; have hfz100_1 := blk_frozen BK311.out 1; have hfz100_2 := blk_frozen BK311.out 2))
                   refine bodyPost_ret (results_ct rfl _ _ gb311 46 #[.int .i64 8, .string (a0.extract (a1 : Int).toNat ((wrap64 (a1 + 1)) : Int).toNat), .int .i64 a1] (0, 0) _ rfl (by (with_reducible repeat (first | refine blk_drewN ?_ _ | refine blk_drew ?_ | refine blk_alloc ?_ _)); refine blk_put (cs := #[.int .i64 8, .string (a0.extract (a1 : Int).toNat ((wrap64 (a1 + 1)) : Int).toNat), .int .i64 0]) ?_ 2 _ rfl; (with_reducible repeat (first | refine blk_drewN ?_ _ | refine blk_drew ?_ | refine blk_alloc ?_ _)); refine blk_put (cs := #[.int .i64 8, .string (⟨#[]⟩ : ByteArray), .int .i64 0]) ?_ 1 _ rfl; (with_reducible repeat (first | refine blk_drewN ?_ _ | refine blk_drew ?_ | refine blk_alloc ?_ _)); refine blk_put (cs := #[.int .i64 0, .string (⟨#[]⟩ : ByteArray), .int .i64 0]) ?_ 0 _ rfl; (with_reducible repeat (first | refine blk_drewN ?_ _ | refine blk_drew ?_ | refine blk_alloc ?_ _)); exact BK311.out) Tryd.underlying46 rfl (by kernel_rfl)) rfl ?_
                   exact ⟨by first | rfl | (simp [errW_none, errW_some] <;> rfl) | (simp [errW_none, errW_some] <;> first | rfl | exact isEmpty_bne _) | (simp [*, errW_none, errW_some] <;> rfl), by repeat (first | (with_reducible first | exact HB.out | apply below_alloc | apply pw_below_drewN | apply below_drew1 | refine below_set ?_ GE311.out) | exact HB.out)⟩
                  ·replace c96 := Bool.eq_false_iff.mpr c96
                   subst c96
                   have H1 : (some (0, (⟨#[]⟩ : ByteArray), 0, (-1))) = some (r1, r2, r3, r4) := by rw [if_neg (show ¬ (false = true) by decide)] at H; exact H
                   clear H
                   have H := H1
                   clear H1
                   simp only [Option.some.injEq, Prod.mk.injEq] at H
                   obtain ⟨rfl, rfl, rfl, rfl⟩ := H
                   go_wp2_with (first | ((with_reducible refine gate_callee (f := 38) rfl ?_); refine goesL_ (some 169) rfl rfl Tryd.func38 (by kernel_rfl) rfl #[.string (a0.extract (a1 : Int).toNat ((wrap64 (a1 + 1)) : Int).toNat), .string (⟨#[123, 32, 125, 32, 40, 32, 41, 32, 91, 32, 93, 32, 59, 32, 44, 32, 43, 32, 45, 32, 42, 32, 47, 32, 37, 32, 33, 32, 62, 32, 60, 32, 124, 32, 63, 32, 58, 32, 126, 32, 36, 32, 61]⟩ : ByteArray)] rfl (by (try simp only [List.map_toArray, List.map_cons, List.map_nil]); first | done | rfl | (simp only [List.length_drop, List.length_take]; rfl)) ?_; (with_reducible refine (scriberef11_among.calls kj80 (a0.extract (a1 : Int).toNat ((wrap64 (a1 + 1)) : Int).toNat) (⟨#[123, 32, 125, 32, 40, 32, 41, 32, 91, 32, 93, 32, 59, 32, 44, 32, 43, 32, 45, 32, 42, 32, 47, 32, 37, 32, 33, 32, 62, 32, 60, 32, 124, 32, 63, 32, 58, 32, 126, 32, 36, 32, 61]⟩ : ByteArray) false _ ?side1 A95.out).mono ?_); (case side1 => exact TB.below hT (by repeat (first | (with_reducible first | exact HB.out | apply below_alloc | apply pw_below_drewN | apply below_drew1 | refine below_set ?_ GE311.out) | exact HB.out))); rintro e w' ⟨rfl, ⟨nd, rfl⟩⟩; refine ⟨_, rfl, ?_⟩; (try (rw [drewN_self wc]; generalize hq_ : World.drewN wc _ = wc; have n0_ : Aside0 (wc.heap[gb311]? = some (.cells #[.int .i64 0, .string (⟨#[]⟩ : ByteArray), .int .i64 0] 46 (0, 0))) := ⟨by rw [← hq_]; exact (by (with_reducible repeat (first | refine blk_drewN ?_ _ | refine blk_drew ?_ | refine blk_alloc ?_ _)); exact BK311.out)⟩; have n1_ : Aside0 (Below w.heap.size w wc) := ⟨by rw [← hq_]; exact (by repeat (first | (with_reducible first | exact HB.out | apply below_alloc | apply pw_below_drewN | apply below_drew1 | refine below_set ?_ GE311.out) | exact HB.out))⟩; clear BK311 HB hq_; have BK311 := n0_; have HB := n1_; clear n0_ n1_)); have hcz101_0 : wc.cell? ⟨gb311, 0, none⟩ = some (.int .i64 0) := (blk_cell BK311.out 0).trans rfl; have hcz101_1 : wc.cell? ⟨gb311, 1, none⟩ = some (.string (⟨#[]⟩ : ByteArray)) := (blk_cell BK311.out 1).trans rfl; have hcz101_2 : wc.cell? ⟨gb311, 2, none⟩ = some (.int .i64 0) := (blk_cell BK311.out 2).trans rfl; have hfz101_0 := blk_frozen BK311.out 0; have hfz101_1 := blk_frozen BK311.out 1; have hfz101_2 := blk_frozen BK311.out 2))
                   refine bodyPost_ret (results_ct rfl _ _ gb311 46 #[.int .i64 0, .string (⟨#[]⟩ : ByteArray), .int .i64 0] (0, 0) _ rfl (by (with_reducible repeat (first | refine blk_drewN ?_ _ | refine blk_drew ?_ | refine blk_alloc ?_ _)); refine blk_put (cs := #[.int .i64 0, .string (⟨#[]⟩ : ByteArray), .int .i64 0]) ?_ 2 _ rfl; (with_reducible repeat (first | refine blk_drewN ?_ _ | refine blk_drew ?_ | refine blk_alloc ?_ _)); refine blk_put (cs := #[.int .i64 0, .string (⟨#[]⟩ : ByteArray), .int .i64 0]) ?_ 1 _ rfl; (with_reducible repeat (first | refine blk_drewN ?_ _ | refine blk_drew ?_ | refine blk_alloc ?_ _)); refine blk_put (cs := #[.int .i64 0, .string (⟨#[]⟩ : ByteArray), .int .i64 0]) ?_ 0 _ rfl; (with_reducible repeat (first | refine blk_drewN ?_ _ | refine blk_drew ?_ | refine blk_alloc ?_ _)); exact BK311.out) Tryd.underlying46 rfl (by kernel_rfl)) rfl ?_
                   exact ⟨by first | rfl | (simp [errW_none, errW_some] <;> rfl) | (simp [errW_none, errW_some] <;> first | rfl | exact isEmpty_bne _) | (simp [*, errW_none, errW_some] <;> rfl), by repeat (first | (with_reducible first | exact HB.out | apply below_alloc | apply pw_below_drewN | apply below_drew1 | refine below_set ?_ GE311.out) | exact HB.out)⟩
                 ·rw [if_neg c94] at H
                  exact absurd H (by simp)
                ·rw [if_neg c93] at H
                 exact absurd H (by simp)
               ·rw [if_neg c92] at H
                exact absurd H (by simp)
  ·rw [if_neg c5] at H
   exact absurd H (by simp)
 ·rw [if_neg c4] at H
  exact absurd H (by simp)

end Go.Proofs.YtpnkcihiliagcaaDoor.Pr
