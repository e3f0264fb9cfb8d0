/- The machine's side, written by a patched print (wip/tools): each theorem says that a call of the Go function comes to what the Lean function beside it computes, where the tables are laid (TB). -/
import Derived.Test.YtmhhklenaadobaaDoorPr0
import Derived.Test.YtmhhklenaadobaaDoorPr5
import Derived.Test.YtmhhklenaadobaaDoorPr7
import Derived.Test.YtmhhklenaadobaaDoorPr11
import Derived.Test.YtmhhklenaadobaaDoorPr13
import Derived.Test.YtmhhklenaadobaaDoorPr16
import Derived.Test.YtmhhklenaadobaaDoorPr18
import Derived.Test.YtmhhklenaadobaaDoorPr22
import Derived.Test.YtmhhklenaadobaaDoorPr23
import Derived.Test.YtmhhklenaadobaaDoorPr25
import Derived.Test.YtmhhklenaadobaaDoorPr26
namespace Go.Proofs.YtmhhklenaadobaaDoor.Pr
open Go.RowKit Go.Proofs.YtmhhklenaadobaaDoorW.PrintWords Go.Proofs.YtmhhklenaadobaaDoorW.PrintLast Go.Proofs.YtmhhklenaadobaaDoorW.PrintMore
attribute [local go_sem] fld27_0 fld27_1 fld27_2 fld38_0 fld38_1 fld38_2 binOp_string_gtr2 binOp_string_leq2 binOp_string_geq2 max2_int min2_int max_two min_two max_three min_three max_four min_four   -- for this text's walks alone
set_option linter.unusedVariables false
set_option linter.unusedSimpArgs false

/-! ### scribelaw06_CellIs: function 7 -/
mutual
def scribelaw06_CellIs.j0 : Nat → Bool → Int → Int → ByteArray → Int → Int → ByteArray → Int → Int → ByteArray → Int → Int → ByteArray → Option (Bool)
 | 0, _, _, _, _, _, _, _, _, _, _, _, _, _ => none
 | k + 1, x30, x284000, x284001, x284002, x285000, x285001, x285002, x298000, x298001, x298002, x299000, x299001, x299002 => if x30 = true then (some false) else ((scriberef06_Good.f k x298000 x298001 x298002).bind fun t304 => (if t304 = true then ((scriberef06_Good.f k x299000 x299001 x299002).bind fun t305 => (scribelaw06_CellIs.j1 k (!t305) x284000 x284001 x284002 x285000 x285001 x285002 x298000 x298001 x298002 x299000 x299001 x299002)) else (scribelaw06_CellIs.j1 k true x284000 x284001 x284002 x285000 x285001 x285002 x298000 x298001 x298002 x299000 x299001 x299002)))
def scribelaw06_CellIs.j1 : Nat → Bool → Int → Int → ByteArray → Int → Int → ByteArray → Int → Int → ByteArray → Int → Int → ByteArray → Option (Bool)
 | 0, _, _, _, _, _, _, _, _, _, _, _, _, _ => none
 | k + 1, x38, x284000, x284001, x284002, x285000, x285001, x285002, x298000, x298001, x298002, x299000, x299001, x299002 => if x38 = true then (some true) else ((cell_Cell_Num.f k x284000 x284001 x284002).bind fun t306 => ((scriberef06_Num.f k x298000 x298001 x298002).bind fun t307 => (if t306 = t307 then ((cell_Cell_Str.f k x284000 x284001 x284002).bind fun t308 => ((scriberef06_Str.f k x298000 x298001 x298002).bind fun t309 => (if t308.toList = t309.toList then ((cell_Cell_True.f x284000 x284001 x284002).bind fun t310 => ((scriberef06_True.f x298000 x298001 x298002).bind fun t311 => (if (t310 == t311) = true then ((cell_Compare.f k x284000 x284001 x284002 x285000 x285001 x285002).bind fun t312 => ((scriberef06_Compare.f k x298000 x298001 x298002 x299000 x299001 x299002).bind fun t313 => (some (t312 == t313)))) else (some false)))) else (some false)))) else (some false))))
end
def scribelaw06_CellIs.f (k : Nat) (a0_0 : Int) (a0_1 : Int) (a0_2 : ByteArray) (a1_0 : Int) (a1_1 : Int) (a1_2 : ByteArray) : Option (Bool) := (scribelaw06_Cut.f a0_0 a0_1 a0_2).bind fun bt285 => ((scribelaw06_Cut.f a1_0 a1_1 a1_2).bind fun bt288 => ((scribelaw06_Told.f bt285.1 bt285.2.1 bt285.2.2).bind fun bt291 => ((scribelaw06_Told.f bt288.1 bt288.2.1 bt288.2.2).bind fun bt294 => ((scribelaw06_awake.f k).bind fun t299 => (if t299 = true then ((cell_Good.f k bt285.1 bt285.2.1 bt285.2.2).bind fun t300 => ((scriberef06_Good.f k bt291.1 bt291.2.1 bt291.2.2).bind fun t301 => (if (t300 != t301) = true then (scribelaw06_CellIs.j0 k true bt285.1 bt285.2.1 bt285.2.2 bt288.1 bt288.2.1 bt288.2.2 bt291.1 bt291.2.1 bt291.2.2 bt294.1 bt294.2.1 bt294.2.2) else ((cell_Good.f k bt288.1 bt288.2.1 bt288.2.2).bind fun t302 => ((scriberef06_Good.f k bt294.1 bt294.2.1 bt294.2.2).bind fun t303 => (scribelaw06_CellIs.j0 k (t302 != t303) bt285.1 bt285.2.1 bt285.2.2 bt288.1 bt288.2.1 bt288.2.2 bt291.1 bt291.2.1 bt291.2.2 bt294.1 bt294.2.1 bt294.2.2)))))) else (scribelaw06_CellIs.j0 k true bt285.1 bt285.2.1 bt285.2.2 bt288.1 bt288.2.1 bt288.2.2 bt291.1 bt291.2.1 bt291.2.2 bt294.1 bt294.2.1 bt294.2.2))))))
theorem scribelaw06_CellIs.mono_l : ∀ k, (∀ y0 y1 y2 y3 y4 y5 y6 y7 y8 y9 y10 y11 y12, LeO (scribelaw06_CellIs.j0 k y0 y1 y2 y3 y4 y5 y6 y7 y8 y9 y10 y11 y12) (scribelaw06_CellIs.j0 (k + 1) y0 y1 y2 y3 y4 y5 y6 y7 y8 y9 y10 y11 y12)) ∧ (∀ y0 y1 y2 y3 y4 y5 y6 y7 y8 y9 y10 y11 y12, LeO (scribelaw06_CellIs.j1 k y0 y1 y2 y3 y4 y5 y6 y7 y8 y9 y10 y11 y12) (scribelaw06_CellIs.j1 (k + 1) y0 y1 y2 y3 y4 y5 y6 y7 y8 y9 y10 y11 y12))
 | 0 => ⟨fun _ _ _ _ _ _ _ _ _ _ _ _ _ r h => by simp [scribelaw06_CellIs.j0] at h, fun _ _ _ _ _ _ _ _ _ _ _ _ _ r h => by simp [scribelaw06_CellIs.j1] at h⟩
 | k + 1 => by
  obtain ⟨ih0, ih1⟩ := scribelaw06_CellIs.mono_l k
  refine ⟨?_, ?_⟩
  ·intro y0 y1 y2 y3 y4 y5 y6 y7 y8 y9 y10 y11 y12
   unfold scribelaw06_CellIs.j0
   repeat' first
   | (with_reducible exact ih0 _ _ _ _ _ _ _ _ _ _ _ _ _)
   | (with_reducible exact ih1 _ _ _ _ _ _ _ _ _ _ _ _ _)
   | (with_reducible exact cell_Cell_Num.mono _ _ _ _)
   | (with_reducible exact cell_Cell_Str.mono _ _ _ _)
   | (with_reducible exact cell_Compare.mono _ _ _ _ _ _ _)
   | (with_reducible exact cell_Good.mono _ _ _ _)
   | (with_reducible exact scribelaw06_awake.mono _)
   | (with_reducible exact scriberef06_Compare.mono _ _ _ _ _ _ _)
   | (with_reducible exact scriberef06_Good.mono _ _ _ _)
   | (with_reducible exact scriberef06_Num.mono _ _ _ _)
   | (with_reducible exact scriberef06_Str.mono _ _ _ _)
   | (with_reducible exact LeO.refl _)
   | (with_reducible exact LeO.none _)
   | (with_reducible refine LeO.ite ?_ ?_)
   | (with_reducible refine LeO.bind ?_ (fun _ => ?_))
   | exact ih0 _ _ _ _ _ _ _ _ _ _ _ _ _
   | exact ih1 _ _ _ _ _ _ _ _ _ _ _ _ _
   | exact cell_Cell_Num.mono _ _ _ _
   | exact cell_Cell_Str.mono _ _ _ _
   | exact cell_Compare.mono _ _ _ _ _ _ _
   | exact cell_Good.mono _ _ _ _
   | exact scribelaw06_awake.mono _
   | exact scriberef06_Compare.mono _ _ _ _ _ _ _
   | exact scriberef06_Good.mono _ _ _ _
   | exact scriberef06_Num.mono _ _ _ _
   | exact scriberef06_Str.mono _ _ _ _
   | exact LeO.none _
   | refine LeO.ite ?_ ?_
   | refine LeO.bind ?_ (fun _ => ?_)
  ·intro y0 y1 y2 y3 y4 y5 y6 y7 y8 y9 y10 y11 y12
   unfold scribelaw06_CellIs.j1
   repeat' first
   | (with_reducible exact ih0 _ _ _ _ _ _ _ _ _ _ _ _ _)
   | (with_reducible exact ih1 _ _ _ _ _ _ _ _ _ _ _ _ _)
   | (with_reducible exact cell_Cell_Num.mono _ _ _ _)
   | (with_reducible exact cell_Cell_Str.mono _ _ _ _)
   | (with_reducible exact cell_Compare.mono _ _ _ _ _ _ _)
   | (with_reducible exact cell_Good.mono _ _ _ _)
   | (with_reducible exact scribelaw06_awake.mono _)
   | (with_reducible exact scriberef06_Compare.mono _ _ _ _ _ _ _)
   | (with_reducible exact scriberef06_Good.mono _ _ _ _)
   | (with_reducible exact scriberef06_Num.mono _ _ _ _)
   | (with_reducible exact scriberef06_Str.mono _ _ _ _)
   | (with_reducible exact LeO.refl _)
   | (with_reducible exact LeO.none _)
   | (with_reducible refine LeO.ite ?_ ?_)
   | (with_reducible refine LeO.bind ?_ (fun _ => ?_))
   | exact ih0 _ _ _ _ _ _ _ _ _ _ _ _ _
   | exact ih1 _ _ _ _ _ _ _ _ _ _ _ _ _
   | exact cell_Cell_Num.mono _ _ _ _
   | exact cell_Cell_Str.mono _ _ _ _
   | exact cell_Compare.mono _ _ _ _ _ _ _
   | exact cell_Good.mono _ _ _ _
   | exact scribelaw06_awake.mono _
   | exact scriberef06_Compare.mono _ _ _ _ _ _ _
   | exact scriberef06_Good.mono _ _ _ _
   | exact scriberef06_Num.mono _ _ _ _
   | exact scriberef06_Str.mono _ _ _ _
   | exact LeO.none _
   | refine LeO.ite ?_ ?_
   | refine LeO.bind ?_ (fun _ => ?_)
theorem scribelaw06_CellIs.mono : ∀ a0 a1 a2 a3 a4 a5 k, LeO (scribelaw06_CellIs.f k a0 a1 a2 a3 a4 a5) (scribelaw06_CellIs.f (k + 1) a0 a1 a2 a3 a4 a5) := by
 intro a0 a1 a2 a3 a4 a5 k
 obtain ⟨ih0, ih1⟩ := scribelaw06_CellIs.mono_l k
 unfold scribelaw06_CellIs.f
 repeat' first
   | (with_reducible exact ih0 _ _ _ _ _ _ _ _ _ _ _ _ _)
   | (with_reducible exact ih1 _ _ _ _ _ _ _ _ _ _ _ _ _)
   | (with_reducible exact cell_Cell_Num.mono _ _ _ _)
   | (with_reducible exact cell_Cell_Str.mono _ _ _ _)
   | (with_reducible exact cell_Compare.mono _ _ _ _ _ _ _)
   | (with_reducible exact cell_Good.mono _ _ _ _)
   | (with_reducible exact scribelaw06_awake.mono _)
   | (with_reducible exact scriberef06_Compare.mono _ _ _ _ _ _ _)
   | (with_reducible exact scriberef06_Good.mono _ _ _ _)
   | (with_reducible exact scriberef06_Num.mono _ _ _ _)
   | (with_reducible exact scriberef06_Str.mono _ _ _ _)
   | (with_reducible exact LeO.refl _)
   | (with_reducible exact LeO.none _)
   | (with_reducible refine LeO.ite ?_ ?_)
   | (with_reducible refine LeO.bind ?_ (fun _ => ?_))
   | exact ih0 _ _ _ _ _ _ _ _ _ _ _ _ _
   | exact ih1 _ _ _ _ _ _ _ _ _ _ _ _ _
   | exact cell_Cell_Num.mono _ _ _ _
   | exact cell_Cell_Str.mono _ _ _ _
   | exact cell_Compare.mono _ _ _ _ _ _ _
   | exact cell_Good.mono _ _ _ _
   | exact scribelaw06_awake.mono _
   | exact scriberef06_Compare.mono _ _ _ _ _ _ _
   | exact scriberef06_Good.mono _ _ _ _
   | exact scriberef06_Num.mono _ _ _ _
   | exact scriberef06_Str.mono _ _ _ _
   | exact LeO.none _
   | refine LeO.ite ?_ ?_
   | refine LeO.bind ?_ (fun _ => ?_)
def scribelaw06_CellIs.T2 : Bool × List (List Nat × List Nat) := (true, [([], []), ([0], [0]), ([], []), ([2, 1], [2]), ([], []), ([], []), ([4, 1, 3, 0, 1, 4, 5], [1, 4]), ([5, 3, 6, 0, 1, 2, 3, 4, 5, 6], [3, 5])])
def scribelaw06_CellIs.B2 : List Nat := [0, 1, 0, 7, 0, 0, 63, 127]
theorem scribelaw06_CellIs.tab2 : rtab .any (opsOf Tryd.f7 2) = scribelaw06_CellIs.T2 := by kernel_rfl
theorem scribelaw06_CellIs.bits2 : waitsOk scribelaw06_CellIs.T2.2 scribelaw06_CellIs.B2 = true := by kernel_rfl
def scribelaw06_CellIs.T3 : Bool × List (List Nat × List Nat) := (true, [([], []), ([0], [0]), ([1, 0], [1]), ([2], [2]), ([3, 2, 2], [2, 3]), ([2], [2]), ([5, 4, 2], [2, 5]), ([4, 6, 2], [2, 4, 6]), ([2, 7], [2, 7]), ([8, 6], [8]), ([9], [9]), ([10, 9, 9], [9, 10]), ([9], [9]), ([12, 11, 9], [9, 12]), ([11, 13, 9], [9, 11, 13]), ([9, 14], [9, 14])])
def scribelaw06_CellIs.B3 : List Nat := [0, 1, 3, 7, 15, 7, 63, 127, 255, 511, 1023, 2047, 1023, 8191, 16383, 32767]
theorem scribelaw06_CellIs.tab3 : rtab .any (opsOf Tryd.f7 3) = scribelaw06_CellIs.T3 := by kernel_rfl
theorem scribelaw06_CellIs.bits3 : waitsOk scribelaw06_CellIs.T3.2 scribelaw06_CellIs.B3 = true := by kernel_rfl
def scribelaw06_CellIs.T7 : Bool × List (List Nat × List Nat) := (true, [([], []), ([0], [0]), ([], []), ([2, 1], [2]), ([1, 3], [1, 3]), ([4, 3], [4]), ([5], [5]), ([6, 5, 5], [5, 6]), ([5], [5]), ([8, 7, 5], [5, 8]), ([7, 9, 5], [5, 7, 9]), ([5, 10], [5, 10]), ([11, 9], [11]), ([12], [12]), ([13, 12, 12], [12, 13]), ([12], [12]), ([15, 14, 12], [12, 15]), ([14, 16, 12], [12, 14, 16]), ([12, 17], [12, 17]), ([18, 16], [18]), ([19], [19]), ([19], [19]), ([20, 21, 19, 19], [19, 20, 21]), ([19], [19]), ([19], [19]), ([23, 24, 22, 19], [19, 23, 24]), ([22, 25, 19], [19, 22, 25]), ([19, 26], [19, 26]), ([27, 25, 0, 1, 2, 3, 4, 5, 6, 7, 8, 9, 10, 11, 12, 13, 14, 15, 16, 17, 18, 19, 20, 21, 22, 23, 24, 25, 26, 27], [27])])
def scribelaw06_CellIs.B7 : List Nat := [0, 1, 0, 7, 15, 31, 63, 127, 63, 511, 1023, 2047, 4095, 8191, 16383, 8191, 65535, 131071, 262143, 524287, 1048575, 1048575, 4194303, 1048575, 1048575, 33554431, 67108863, 134217727, 268435455]
theorem scribelaw06_CellIs.tab7 : rtab .any (opsOf Tryd.f7 7) = scribelaw06_CellIs.T7 := by kernel_rfl
theorem scribelaw06_CellIs.bits7 : waitsOk scribelaw06_CellIs.T7.2 scribelaw06_CellIs.B7 = true := by kernel_rfl
set_option maxHeartbeats 8000000 in
set_option maxRecDepth 100000 in
theorem scribelaw06_CellIs.calls (k : Nat) (a0_0 : Int) (a0_1 : Int) (a0_2 : ByteArray) (a1_0 : Int) (a1_1 : Int) (a1_2 : ByteArray) (r : Bool) (w : World) (hT : TB w) (h : scribelaw06_CellIs.f k a0_0 a0_1 a0_2 a1_0 a1_1 a1_2 = some r) :
  Calls Tryd.prog 7 #[.agg #[.int .i64 a0_0, .int .i64 a0_1, .string a0_2], .agg #[.int .i64 a1_0, .int .i64 a1_1, .string a1_2]] w fun e w' => e = .returned (.bool r) ∧ Below w.heap.size w w' := by
 have hu27 := Tryd.underlying27
 have hu38 := Tryd.underlying38
 have HB := Aside0.mk (Below.refl w.heap.size w)
 have H : ((scribelaw06_Cut.f a0_0 a0_1 a0_2).bind fun bt285 => ((scribelaw06_Cut.f a1_0 a1_1 a1_2).bind fun bt288 => ((scribelaw06_Told.f bt285.1 bt285.2.1 bt285.2.2).bind fun bt291 => ((scribelaw06_Told.f bt288.1 bt288.2.1 bt288.2.2).bind fun bt294 => ((scribelaw06_awake.f k).bind fun t299 => (if t299 = true then ((cell_Good.f k bt285.1 bt285.2.1 bt285.2.2).bind fun t300 => ((scriberef06_Good.f k bt291.1 bt291.2.1 bt291.2.2).bind fun t301 => (if (t300 != t301) = true then (scribelaw06_CellIs.j0 k true bt285.1 bt285.2.1 bt285.2.2 bt288.1 bt288.2.1 bt288.2.2 bt291.1 bt291.2.1 bt291.2.2 bt294.1 bt294.2.1 bt294.2.2) else ((cell_Good.f k bt288.1 bt288.2.1 bt288.2.2).bind fun t302 => ((scriberef06_Good.f k bt294.1 bt294.2.1 bt294.2.2).bind fun t303 => (scribelaw06_CellIs.j0 k (t302 != t303) bt285.1 bt285.2.1 bt285.2.2 bt288.1 bt288.2.1 bt288.2.2 bt291.1 bt291.2.1 bt291.2.2 bt294.1 bt294.2.1 bt294.2.2)))))) else (scribelaw06_CellIs.j0 k true bt285.1 bt285.2.1 bt285.2.2 bt288.1 bt288.2.1 bt288.2.2 bt291.1 bt291.2.1 bt291.2.2 bt294.1 bt294.2.1 bt294.2.2))))))) = some r := h
 clear h
 replace H := Option.bind_eq_some_iff.mp H
 obtain ⟨⟨t285, t286, t287⟩, A30, H⟩ := H
 replace H : ((scribelaw06_Cut.f a1_0 a1_1 a1_2).bind fun bt288 => ((scribelaw06_Told.f t285 t286 t287).bind fun bt291 => ((scribelaw06_Told.f bt288.1 bt288.2.1 bt288.2.2).bind fun bt294 => ((scribelaw06_awake.f k).bind fun t299 => (if t299 = true then ((cell_Good.f k t285 t286 t287).bind fun t300 => ((scriberef06_Good.f k bt291.1 bt291.2.1 bt291.2.2).bind fun t301 => (if (t300 != t301) = true then (scribelaw06_CellIs.j0 k true t285 t286 t287 bt288.1 bt288.2.1 bt288.2.2 bt291.1 bt291.2.1 bt291.2.2 bt294.1 bt294.2.1 bt294.2.2) else ((cell_Good.f k bt288.1 bt288.2.1 bt288.2.2).bind fun t302 => ((scriberef06_Good.f k bt294.1 bt294.2.1 bt294.2.2).bind fun t303 => (scribelaw06_CellIs.j0 k (t302 != t303) t285 t286 t287 bt288.1 bt288.2.1 bt288.2.2 bt291.1 bt291.2.1 bt291.2.2 bt294.1 bt294.2.1 bt294.2.2)))))) else (scribelaw06_CellIs.j0 k true t285 t286 t287 bt288.1 bt288.2.1 bt288.2.2 bt291.1 bt291.2.1 bt291.2.2 bt294.1 bt294.2.1 bt294.2.2)))))) = some r := H
 have A3 := Aside0.mk A30
 clear A30
 replace H := Option.bind_eq_some_iff.mp H
 obtain ⟨⟨t288, t289, t290⟩, A40, H⟩ := H
 replace H : ((scribelaw06_Told.f t285 t286 t287).bind fun bt291 => ((scribelaw06_Told.f t288 t289 t290).bind fun bt294 => ((scribelaw06_awake.f k).bind fun t299 => (if t299 = true then ((cell_Good.f k t285 t286 t287).bind fun t300 => ((scriberef06_Good.f k bt291.1 bt291.2.1 bt291.2.2).bind fun t301 => (if (t300 != t301) = true then (scribelaw06_CellIs.j0 k true t285 t286 t287 t288 t289 t290 bt291.1 bt291.2.1 bt291.2.2 bt294.1 bt294.2.1 bt294.2.2) else ((cell_Good.f k t288 t289 t290).bind fun t302 => ((scriberef06_Good.f k bt294.1 bt294.2.1 bt294.2.2).bind fun t303 => (scribelaw06_CellIs.j0 k (t302 != t303) t285 t286 t287 t288 t289 t290 bt291.1 bt291.2.1 bt291.2.2 bt294.1 bt294.2.1 bt294.2.2)))))) else (scribelaw06_CellIs.j0 k true t285 t286 t287 t288 t289 t290 bt291.1 bt291.2.1 bt291.2.2 bt294.1 bt294.2.1 bt294.2.2))))) = some r := H
 have A4 := Aside0.mk A40
 clear A40
 replace H := Option.bind_eq_some_iff.mp H
 obtain ⟨⟨t291, t292, t293⟩, A50, H⟩ := H
 replace H : ((scribelaw06_Told.f t288 t289 t290).bind fun bt294 => ((scribelaw06_awake.f k).bind fun t299 => (if t299 = true then ((cell_Good.f k t285 t286 t287).bind fun t300 => ((scriberef06_Good.f k t291 t292 t293).bind fun t301 => (if (t300 != t301) = true then (scribelaw06_CellIs.j0 k true t285 t286 t287 t288 t289 t290 t291 t292 t293 bt294.1 bt294.2.1 bt294.2.2) else ((cell_Good.f k t288 t289 t290).bind fun t302 => ((scriberef06_Good.f k bt294.1 bt294.2.1 bt294.2.2).bind fun t303 => (scribelaw06_CellIs.j0 k (t302 != t303) t285 t286 t287 t288 t289 t290 t291 t292 t293 bt294.1 bt294.2.1 bt294.2.2)))))) else (scribelaw06_CellIs.j0 k true t285 t286 t287 t288 t289 t290 t291 t292 t293 bt294.1 bt294.2.1 bt294.2.2)))) = some r := H
 have A5 := Aside0.mk A50
 clear A50
 replace H := Option.bind_eq_some_iff.mp H
 obtain ⟨⟨t294, t295, t296⟩, A60, H⟩ := H
 replace H : ((scribelaw06_awake.f k).bind fun t299 => (if t299 = true then ((cell_Good.f k t285 t286 t287).bind fun t300 => ((scriberef06_Good.f k t291 t292 t293).bind fun t301 => (if (t300 != t301) = true then (scribelaw06_CellIs.j0 k true t285 t286 t287 t288 t289 t290 t291 t292 t293 t294 t295 t296) else ((cell_Good.f k t288 t289 t290).bind fun t302 => ((scriberef06_Good.f k t294 t295 t296).bind fun t303 => (scribelaw06_CellIs.j0 k (t302 != t303) t285 t286 t287 t288 t289 t290 t291 t292 t293 t294 t295 t296)))))) else (scribelaw06_CellIs.j0 k true t285 t286 t287 t288 t289 t290 t291 t292 t293 t294 t295 t296))) = some r := H
 have A6 := Aside0.mk A60
 clear A60
 have HC7 := Aside0.mk H
 clear H
 go_enter Tryd.func7, Tryd.ntmps7
 try go_wp2_with (first | ((with_reducible refine gate_dst (N := 2) rfl ?_); refine box_event ?hg (N := 2) ?hd (cs := #[.int .i64 a0_0, .int .i64 a0_1, .string a0_2]) (t := 27) ?hr ?_; (case hd => rfl); (case hg => rfl); (case hr => first | (go_simp; done) | (go_simp; rfl)); intro gb283 hg w8 hbox hb; have n0_ := Aside0.mk (below_step HB.out hb); have n1_ := Aside0.mk (hbox); have n2_ := Aside0.mk ((by rw [hg]; exact (below_size HB.out) : w.heap.size ≤ gb283)); have n3_ := Aside0.mk ((by rw [hg]; exact (below_size HB.out) : w.heap.size ≤ gb283)); clear HB; have HB := n0_; have BK283 := n1_; have GW283 := n2_; have GE283 := n3_; clear n0_ n1_ n2_ n3_; clear hb hbox hg) | ((with_reducible refine gate_dst (N := 3) rfl ?_); refine box_event ?hg (N := 3) ?hd (cs := #[.int .i64 a1_0, .int .i64 a1_1, .string a1_2]) (t := 27) ?hr ?_; (case hd => rfl); (case hg => rfl); (case hr => first | (go_simp; done) | (go_simp; rfl)); intro gb284 hg w9 hbox hb; have n0_ := Aside0.mk (blk_below BK283.out hb); have n1_ := Aside0.mk (below_step HB.out hb); have n2_ := Aside0.mk (hbox); have n3_ := Aside0.mk ((by rw [hg]; exact (below_size HB.out) : w.heap.size ≤ gb284)); have n4_ := Aside0.mk ((by rw [hg]; exact (below_size HB.out) : w.heap.size ≤ gb284)); have n5_ := Aside0.mk ((by rw [hg]; exact Nat.ne_of_lt (blk_lt (g := gb283) (o := .cells #[.int .i64 a0_0, .int .i64 a0_1, .string a0_2] 27 (0, 0)) BK283.out) : gb283 ≠ gb284)); have n6_ := Aside0.mk ((by rw [hg]; exact Nat.ne_of_gt (blk_lt (g := gb283) (o := .cells #[.int .i64 a0_0, .int .i64 a0_1, .string a0_2] 27 (0, 0)) BK283.out) : gb284 ≠ gb283)); clear BK283; clear HB; have BK283 := n0_; have HB := n1_; have BK284 := n2_; have GW284 := n3_; have GE284 := n4_; have NB283_284 := n5_; have NB284_283 := n6_; clear n0_ n1_ n2_ n3_ n4_ n5_ n6_; clear hb hbox hg))
 have n0_ := Aside0.mk (blk_drew BK283.out)
 have n1_ := Aside0.mk (blk_drew BK284.out)
 have n2_ := Aside0.mk (below_drew1 HB.out)
 clear BK283
 clear BK284
 clear HB
 have BK283 := n0_
 have BK284 := n1_
 have HB := n2_
 clear n0_ n1_ n2_
 refine start_ (n := 6) (S := fun w' => w'.cell? ⟨gb283, 0, none⟩ = some (.int .i64 a0_0) ∧ w'.cell? ⟨gb283, 1, none⟩ = some (.int .i64 a0_1) ∧ w'.cell? ⟨gb283, 2, none⟩ = some (.string a0_2) ∧ w'.cell? ⟨gb284, 0, none⟩ = some (.int .i64 a1_0) ∧ w'.cell? ⟨gb284, 1, none⟩ = some (.int .i64 a1_1) ∧ w'.cell? ⟨gb284, 2, none⟩ = some (.string a1_2)) (ds := [4, 5]) #[ff,ff,ff,ff,ff,ff] (by kernel_rfl) rfl rfl ⟨(blk_cell BK283.out 0).trans rfl, (blk_cell BK283.out 1).trans rfl, (blk_cell BK283.out 2).trans rfl, (blk_cell BK284.out 0).trans rfl, (blk_cell BK284.out 1).trans rfl, (blk_cell BK284.out 2).trans rfl⟩ (fun hHeld => ?_)
 generalize w9.drew = w10 at BK283 BK284 HB hHeld ⊢
 refine take_ (i := 0) (N := some 7) (v := ?_) (a' := ?_) #[tt,ff,ff,ff,ff,ff] rfl rfl (by kernel_rfl) (fun _ _ _ h => h) (Or.inl ⟨by rfl, ?_⟩) hHeld ?_ ?_
 rotate_left
 ·rintro w' ⟨s0, s1, s2, s3, s4, s5⟩
  go_simp
  with_reducible rfl
 rotate_left
 ·simp only [Act.put, setA, setZ, setS, i64_w, i32_w]
  rfl
 refine take_ (i := 2) (N := some 9) (v := ?_) (a' := ?_) #[tt,ff,tt,ff,ff,ff] rfl rfl (by kernel_rfl) (fun _ _ _ h => h) (Or.inl ⟨by rfl, ?_⟩) hHeld ?_ ?_
 rotate_left
 ·rintro w' ⟨s0, s1, s2, s3, s4, s5⟩
  go_simp
  with_reducible rfl
 rotate_left
 ·simp only [Act.put, setA, setZ, setS, i64_w, i32_w]
  rfl
 refine one_ (i := 1) (N := some 8) #[tt,tt,tt,ff,ff,ff] rfl rfl (by kernel_rfl) (by decide) (fun K hK => ?_)
 refine goes_ Tryd.func17 (by kernel_rfl) rfl #[.agg #[.int .i64 a0_0, .int .i64 a0_1, .string a0_2]] (by rfl) rfl rfl (by (try simp only [List.map_toArray, List.map_cons, List.map_nil]); first | done | rfl | (simp only [List.length_drop, List.length_take]; rfl)) ?_
 with_reducible refine (scribelaw06_Cut.calls a0_0 a0_1 a0_2 t285 t286 t287 _ ?side1 A3.out).mono ?_
 (case side1 => exact TB.below hT HB.out)
 rintro e w11 ⟨rfl, hb⟩
 refine ⟨_, rfl, ?_⟩
 have n0_ := Aside0.mk (blk_below BK283.out hb)
 have n1_ := Aside0.mk (blk_below BK284.out hb)
 have n2_ := Aside0.mk (below_step HB.out hb)
 clear BK283
 clear BK284
 clear HB
 have BK283 := n0_
 have BK284 := n1_
 have HB := n2_
 clear n0_ n1_ n2_
 (try clear hb)
 (try clear hb2)
 (try clear hk)
 (try clear hi)
 refine hK.out _ _ ⟨(blk_cell BK283.out 0).trans rfl, (blk_cell BK283.out 1).trans rfl, (blk_cell BK283.out 2).trans rfl, (blk_cell BK284.out 0).trans rfl, (blk_cell BK284.out 1).trans rfl, (blk_cell BK284.out 2).trans rfl⟩ (fun hHeld => ?_)
 clear hK K
 refine norm_ (a' := ?_) ?_ ?_
 rotate_left
 ·show Act.put _ (some 8) _ = _
  simp only [Act.put, setA, setZ, setS, i64_w, i32_w]
  rfl
 refine one_ (i := 3) (N := some 10) #[tt,tt,tt,tt,ff,ff] rfl rfl (by kernel_rfl) (by decide) (fun K hK => ?_)
 refine goes_ Tryd.func17 (by kernel_rfl) rfl #[.agg #[.int .i64 a1_0, .int .i64 a1_1, .string a1_2]] (by rfl) rfl rfl (by (try simp only [List.map_toArray, List.map_cons, List.map_nil]); first | done | rfl | (simp only [List.length_drop, List.length_take]; rfl)) ?_
 with_reducible refine (scribelaw06_Cut.calls a1_0 a1_1 a1_2 t288 t289 t290 _ ?side1 A4.out).mono ?_
 (case side1 => exact TB.below hT HB.out)
 rintro e w12 ⟨rfl, hb⟩
 refine ⟨_, rfl, ?_⟩
 have n0_ := Aside0.mk (blk_below BK283.out hb)
 have n1_ := Aside0.mk (blk_below BK284.out hb)
 have n2_ := Aside0.mk (below_step HB.out hb)
 clear BK283
 clear BK284
 clear HB
 have BK283 := n0_
 have BK284 := n1_
 have HB := n2_
 clear n0_ n1_ n2_
 (try clear hb)
 (try clear hb2)
 (try clear hk)
 (try clear hi)
 refine hK.out _ _ ⟨(blk_cell BK283.out 0).trans rfl, (blk_cell BK283.out 1).trans rfl, (blk_cell BK283.out 2).trans rfl, (blk_cell BK284.out 0).trans rfl, (blk_cell BK284.out 1).trans rfl, (blk_cell BK284.out 2).trans rfl⟩ (fun hHeld => ?_)
 clear hK K
 refine norm_ (a' := ?_) ?_ ?_
 rotate_left
 ·show Act.put _ (some 10) _ = _
  simp only [Act.put, setA, setZ, setS, i64_w, i32_w]
  rfl
 refine last_ (i := 4) (N := none) #[tt,tt,tt,tt,tt,ff] rfl rfl (by kernel_rfl) (by decide) (fun K hK => ?_)
 have hs13 : w12.cell? ⟨gb283, 0, none⟩ = some (.int .i64 a0_0) := (blk_cell BK283.out 0).trans rfl
 have hfs13 := blk_frozen BK283.out 0
 have hns13_1 := NB284_283.out
 have hms13_1 := NB283_284.out
 have hs14 : w12.cell? ⟨gb283, 1, none⟩ = some (.int .i64 a0_1) := (blk_cell BK283.out 1).trans rfl
 have hfs14 := blk_frozen BK283.out 1
 have hns14_1 := NB284_283.out
 have hms14_1 := NB283_284.out
 have hs15 : w12.cell? ⟨gb283, 2, none⟩ = some (.string a0_2) := (blk_cell BK283.out 2).trans rfl
 have hfs15 := blk_frozen BK283.out 2
 have hns15_1 := NB284_283.out
 have hms15_1 := NB283_284.out
 refine skip_ (w1 := ?_) (by rfl) rfl ?_ ?_
 rotate_left
 ·go_simp
  rfl
 refine hK.out _ _ ?_
 clear hK K
 refine last_ (i := 5) (N := none) #[tt,tt,tt,tt,tt,tt] rfl rfl (by kernel_rfl) (by decide) (fun K hK => ?_)
 have hs16 : w12.cell? ⟨gb284, 0, none⟩ = some (.int .i64 a1_0) := (blk_cell BK284.out 0).trans rfl
 have hfs16 := blk_frozen BK284.out 0
 have hns16_0 := NB283_284.out
 have hms16_0 := NB284_283.out
 have hs17 : w12.cell? ⟨gb284, 1, none⟩ = some (.int .i64 a1_1) := (blk_cell BK284.out 1).trans rfl
 have hfs17 := blk_frozen BK284.out 1
 have hns17_0 := NB283_284.out
 have hms17_0 := NB284_283.out
 have hs18 : w12.cell? ⟨gb284, 2, none⟩ = some (.string a1_2) := (blk_cell BK284.out 2).trans rfl
 have hfs18 := blk_frozen BK284.out 2
 have hns18_0 := NB283_284.out
 have hms18_0 := NB284_283.out
 refine skip_ (w1 := ?_) (by rfl) rfl ?_ ?_
 rotate_left
 ·go_simp
  rfl
 refine hK.out _ _ ?_
 clear hK K
 refine done_ (by kernel_rfl) ?_
 try go_wp2
 have n0_ : Aside0 (((((((w12.setCell ⟨gb283, 0, none⟩ (.int .i64 t285)).setCell ⟨gb283, 1, none⟩ (.int .i64 t286)).setCell ⟨gb283, 2, none⟩ (.string t287)).setCell ⟨gb284, 0, none⟩ (.int .i64 t288)).setCell ⟨gb284, 1, none⟩ (.int .i64 t289)).setCell ⟨gb284, 2, none⟩ (.string t290)).heap[gb283]? = some (.cells #[.int .i64 t285, .int .i64 t286, .string t287] 27 (0, 0))) := ⟨by (with_reducible repeat (first | refine blk_drewN ?_ _ | refine blk_drew ?_ | refine blk_alloc ?_ _)); refine blk_far ?_ NB283_284.out _; (with_reducible repeat (first | refine blk_drewN ?_ _ | refine blk_drew ?_ | refine blk_alloc ?_ _)); refine blk_far ?_ NB283_284.out _; (with_reducible repeat (first | refine blk_drewN ?_ _ | refine blk_drew ?_ | refine blk_alloc ?_ _)); refine blk_far ?_ NB283_284.out _; (with_reducible repeat (first | refine blk_drewN ?_ _ | refine blk_drew ?_ | refine blk_alloc ?_ _)); refine blk_put (cs := #[.int .i64 t285, .int .i64 t286, .string a0_2]) ?_ 2 _ rfl; (with_reducible repeat (first | refine blk_drewN ?_ _ | refine blk_drew ?_ | refine blk_alloc ?_ _)); refine blk_put (cs := #[.int .i64 t285, .int .i64 a0_1, .string a0_2]) ?_ 1 _ rfl; (with_reducible repeat (first | refine blk_drewN ?_ _ | refine blk_drew ?_ | refine blk_alloc ?_ _)); refine blk_put (cs := #[.int .i64 a0_0, .int .i64 a0_1, .string a0_2]) ?_ 0 _ rfl; (with_reducible repeat (first | refine blk_drewN ?_ _ | refine blk_drew ?_ | refine blk_alloc ?_ _)); exact BK283.out⟩
 have n1_ : Aside0 (((((((w12.setCell ⟨gb283, 0, none⟩ (.int .i64 t285)).setCell ⟨gb283, 1, none⟩ (.int .i64 t286)).setCell ⟨gb283, 2, none⟩ (.string t287)).setCell ⟨gb284, 0, none⟩ (.int .i64 t288)).setCell ⟨gb284, 1, none⟩ (.int .i64 t289)).setCell ⟨gb284, 2, none⟩ (.string t290)).heap[gb284]? = some (.cells #[.int .i64 t288, .int .i64 t289, .string t290] 27 (0, 0))) := ⟨by (with_reducible repeat (first | refine blk_drewN ?_ _ | refine blk_drew ?_ | refine blk_alloc ?_ _)); refine blk_put (cs := #[.int .i64 t288, .int .i64 t289, .string a1_2]) ?_ 2 _ rfl; (with_reducible repeat (first | refine blk_drewN ?_ _ | refine blk_drew ?_ | refine blk_alloc ?_ _)); refine blk_put (cs := #[.int .i64 t288, .int .i64 a1_1, .string a1_2]) ?_ 1 _ rfl; (with_reducible repeat (first | refine blk_drewN ?_ _ | refine blk_drew ?_ | refine blk_alloc ?_ _)); refine blk_put (cs := #[.int .i64 a1_0, .int .i64 a1_1, .string a1_2]) ?_ 0 _ rfl; (with_reducible repeat (first | refine blk_drewN ?_ _ | refine blk_drew ?_ | refine blk_alloc ?_ _)); refine blk_far ?_ NB284_283.out _; (with_reducible repeat (first | refine blk_drewN ?_ _ | refine blk_drew ?_ | refine blk_alloc ?_ _)); refine blk_far ?_ NB284_283.out _; (with_reducible repeat (first | refine blk_drewN ?_ _ | refine blk_drew ?_ | refine blk_alloc ?_ _)); refine blk_far ?_ NB284_283.out _; (with_reducible repeat (first | refine blk_drewN ?_ _ | refine blk_drew ?_ | refine blk_alloc ?_ _)); exact BK284.out⟩
 have n2_ : Aside0 (Below w.heap.size w ((((((w12.setCell ⟨gb283, 0, none⟩ (.int .i64 t285)).setCell ⟨gb283, 1, none⟩ (.int .i64 t286)).setCell ⟨gb283, 2, none⟩ (.string t287)).setCell ⟨gb284, 0, none⟩ (.int .i64 t288)).setCell ⟨gb284, 1, none⟩ (.int .i64 t289)).setCell ⟨gb284, 2, none⟩ (.string t290))) := ⟨by repeat (first | (with_reducible first | exact HB.out | apply below_alloc | apply pw_below_drewN | apply below_drew1 | refine below_set ?_ GE283.out | refine below_set ?_ GE284.out) | exact HB.out)⟩
 (try clear BK283)
 (try clear BK284)
 (try clear HB)
 generalize ((((((w12.setCell ⟨gb283, 0, none⟩ (.int .i64 t285)).setCell ⟨gb283, 1, none⟩ (.int .i64 t286)).setCell ⟨gb283, 2, none⟩ (.string t287)).setCell ⟨gb284, 0, none⟩ (.int .i64 t288)).setCell ⟨gb284, 1, none⟩ (.int .i64 t289)).setCell ⟨gb284, 2, none⟩ (.string t290)) = w19 at n0_ n1_ n2_ ⊢
 have BK283 := n0_
 have BK284 := n1_
 have HB := n2_
 clear n0_ n1_ n2_
 have n0_ := Aside0.mk (blk_drew BK283.out)
 have n1_ := Aside0.mk (blk_drew BK284.out)
 have n2_ := Aside0.mk (below_drew1 HB.out)
 clear BK283
 clear BK284
 clear HB
 have BK283 := n0_
 have BK284 := n1_
 have HB := n2_
 clear n0_ n1_ n2_
 refine start_ (n := 8) (S := fun w' => w'.cell? ⟨gb283, 0, none⟩ = some (.int .i64 t285) ∧ w'.cell? ⟨gb283, 1, none⟩ = some (.int .i64 t286) ∧ w'.cell? ⟨gb283, 2, none⟩ = some (.string t287) ∧ w'.cell? ⟨gb284, 0, none⟩ = some (.int .i64 t288) ∧ w'.cell? ⟨gb284, 1, none⟩ = some (.int .i64 t289) ∧ w'.cell? ⟨gb284, 2, none⟩ = some (.string t290)) (ds := []) #[ff,ff,ff,ff,ff,ff,ff,ff] (by kernel_rfl) rfl rfl ⟨(blk_cell BK283.out 0).trans rfl, (blk_cell BK283.out 1).trans rfl, (blk_cell BK283.out 2).trans rfl, (blk_cell BK284.out 0).trans rfl, (blk_cell BK284.out 1).trans rfl, (blk_cell BK284.out 2).trans rfl⟩ (fun hHeld => ?_); refine with_tabW scribelaw06_CellIs.tab2 scribelaw06_CellIs.bits2 (fun HT_ HW_ => ?_)
 generalize w19.drew = w20 at BK283 BK284 HB hHeld ⊢
 refine take_ (i := 0) (N := some 11) (v := ?_) (a' := ?_) #[tt,ff,ff,ff,ff,ff,ff,ff] rfl rfl (take_ofW HT_.out HW_.out (by kernel_rfl)) (fun _ _ _ h => h) (Or.inl ⟨by rfl, ?_⟩) hHeld ?_ ?_
 rotate_left
 ·rintro w' ⟨s0, s1, s2, s3, s4, s5⟩
  go_simp
  with_reducible rfl
 rotate_left
 ·simp only [Act.put, setA, setZ, setS, i64_w, i32_w]
  rfl
 refine take_ (i := 2) (N := some 13) (v := ?_) (a' := ?_) #[tt,ff,tt,ff,ff,ff,ff,ff] rfl rfl (take_ofW HT_.out HW_.out (by kernel_rfl)) (fun _ _ _ h => h) (Or.inl ⟨by rfl, ?_⟩) hHeld ?_ ?_
 rotate_left
 ·rintro w' ⟨s0, s1, s2, s3, s4, s5⟩
  go_simp
  with_reducible rfl
 rotate_left
 ·simp only [Act.put, setA, setZ, setS, i64_w, i32_w]
  rfl
 refine join_ (σ := Nat × Nat) 2 #[tt,tt,tt,tt,tt,tt,ff,ff] (fun s_ => [(12, .agg #[.int .i64 t291, .int .i64 t292, .string t293]), (14, .agg #[.int .i64 t294, .int .i64 t295, .string t296]), (5, .pointer (some ⟨s_.1, 0, none⟩)), (6, .pointer (some ⟨s_.2, 0, none⟩))]) (fun s_ w' => (w'.cell? ⟨gb283, 0, none⟩ = some (.int .i64 t285) ∧ w'.cell? ⟨gb283, 1, none⟩ = some (.int .i64 t286) ∧ w'.cell? ⟨gb283, 2, none⟩ = some (.string t287) ∧ w'.cell? ⟨gb284, 0, none⟩ = some (.int .i64 t288) ∧ w'.cell? ⟨gb284, 1, none⟩ = some (.int .i64 t289) ∧ w'.cell? ⟨gb284, 2, none⟩ = some (.string t290)) ∧ (w'.heap[gb283]? = some (.cells #[.int .i64 t285, .int .i64 t286, .string t287] 27 (0, 0))) ∧ (w'.heap[gb284]? = some (.cells #[.int .i64 t288, .int .i64 t289, .string t290] 27 (0, 0))) ∧ (w'.heap[s_.1]? = some (.cells #[.int .i64 0, .int .i64 0, .string (⟨#[]⟩ : ByteArray)] 38 (0, 0))) ∧ (w'.heap[s_.2]? = some (.cells #[.int .i64 0, .int .i64 0, .string (⟨#[]⟩ : ByteArray)] 38 (0, 0))) ∧ (w.heap.size ≤ s_.1) ∧ (w.heap.size ≤ s_.1) ∧ (gb283 ≠ s_.1) ∧ (s_.1 ≠ gb283) ∧ (gb284 ≠ s_.1) ∧ (s_.1 ≠ gb284) ∧ (s_.2 ≠ s_.1) ∧ (s_.1 ≠ s_.2) ∧ (w.heap.size ≤ s_.2) ∧ (w.heap.size ≤ s_.2) ∧ (gb283 ≠ s_.2) ∧ (s_.2 ≠ gb283) ∧ (gb284 ≠ s_.2) ∧ (s_.2 ≠ gb284) ∧ (Below w.heap.size w w')) ?_ ?_
 rotate_left
 ·intro hJ1_3_4_5
  refine join_ (σ := Nat) 3 #[tt,tt,tt,tt,tt,ff,ff,ff] (fun s_ => [(12, .agg #[.int .i64 t291, .int .i64 t292, .string t293]), (14, .agg #[.int .i64 t294, .int .i64 t295, .string t296]), (5, .pointer (some ⟨s_, 0, none⟩))]) (fun s_ w' => (w'.cell? ⟨gb283, 0, none⟩ = some (.int .i64 t285) ∧ w'.cell? ⟨gb283, 1, none⟩ = some (.int .i64 t286) ∧ w'.cell? ⟨gb283, 2, none⟩ = some (.string t287) ∧ w'.cell? ⟨gb284, 0, none⟩ = some (.int .i64 t288) ∧ w'.cell? ⟨gb284, 1, none⟩ = some (.int .i64 t289) ∧ w'.cell? ⟨gb284, 2, none⟩ = some (.string t290)) ∧ (w'.heap[gb283]? = some (.cells #[.int .i64 t285, .int .i64 t286, .string t287] 27 (0, 0))) ∧ (w'.heap[gb284]? = some (.cells #[.int .i64 t288, .int .i64 t289, .string t290] 27 (0, 0))) ∧ (w'.heap[s_]? = some (.cells #[.int .i64 0, .int .i64 0, .string (⟨#[]⟩ : ByteArray)] 38 (0, 0))) ∧ (w.heap.size ≤ s_) ∧ (w.heap.size ≤ s_) ∧ (gb283 ≠ s_) ∧ (s_ ≠ gb283) ∧ (gb284 ≠ s_) ∧ (s_ ≠ gb284) ∧ (Below w.heap.size w w')) ?_ ?_
  rotate_left
  ·intro hJ1_3_4
   refine join_ (σ := Nat) 3 #[tt,tt,tt,tt,ff,tt,ff,ff] (fun s_ => [(12, .agg #[.int .i64 t291, .int .i64 t292, .string t293]), (14, .agg #[.int .i64 t294, .int .i64 t295, .string t296]), (6, .pointer (some ⟨s_, 0, none⟩))]) (fun s_ w' => (w'.cell? ⟨gb283, 0, none⟩ = some (.int .i64 t285) ∧ w'.cell? ⟨gb283, 1, none⟩ = some (.int .i64 t286) ∧ w'.cell? ⟨gb283, 2, none⟩ = some (.string t287) ∧ w'.cell? ⟨gb284, 0, none⟩ = some (.int .i64 t288) ∧ w'.cell? ⟨gb284, 1, none⟩ = some (.int .i64 t289) ∧ w'.cell? ⟨gb284, 2, none⟩ = some (.string t290)) ∧ (w'.heap[gb283]? = some (.cells #[.int .i64 t285, .int .i64 t286, .string t287] 27 (0, 0))) ∧ (w'.heap[gb284]? = some (.cells #[.int .i64 t288, .int .i64 t289, .string t290] 27 (0, 0))) ∧ (w'.heap[s_]? = some (.cells #[.int .i64 0, .int .i64 0, .string (⟨#[]⟩ : ByteArray)] 38 (0, 0))) ∧ (w.heap.size ≤ s_) ∧ (w.heap.size ≤ s_) ∧ (gb283 ≠ s_) ∧ (s_ ≠ gb283) ∧ (gb284 ≠ s_) ∧ (s_ ≠ gb284) ∧ (Below w.heap.size w w')) ?_ ?_
   rotate_left
   ·intro hJ1_3_5
    refine join_ (σ := Nat × Nat) 3 #[tt,tt,tt,ff,tt,tt,ff,ff] (fun s_ => [(12, .agg #[.int .i64 t291, .int .i64 t292, .string t293]), (5, .pointer (some ⟨s_.1, 0, none⟩)), (6, .pointer (some ⟨s_.2, 0, none⟩))]) (fun s_ w' => (w'.cell? ⟨gb283, 0, none⟩ = some (.int .i64 t285) ∧ w'.cell? ⟨gb283, 1, none⟩ = some (.int .i64 t286) ∧ w'.cell? ⟨gb283, 2, none⟩ = some (.string t287) ∧ w'.cell? ⟨gb284, 0, none⟩ = some (.int .i64 t288) ∧ w'.cell? ⟨gb284, 1, none⟩ = some (.int .i64 t289) ∧ w'.cell? ⟨gb284, 2, none⟩ = some (.string t290)) ∧ (w'.heap[gb283]? = some (.cells #[.int .i64 t285, .int .i64 t286, .string t287] 27 (0, 0))) ∧ (w'.heap[gb284]? = some (.cells #[.int .i64 t288, .int .i64 t289, .string t290] 27 (0, 0))) ∧ (w'.heap[s_.1]? = some (.cells #[.int .i64 0, .int .i64 0, .string (⟨#[]⟩ : ByteArray)] 38 (0, 0))) ∧ (w'.heap[s_.2]? = some (.cells #[.int .i64 0, .int .i64 0, .string (⟨#[]⟩ : ByteArray)] 38 (0, 0))) ∧ (w.heap.size ≤ s_.1) ∧ (w.heap.size ≤ s_.1) ∧ (gb283 ≠ s_.1) ∧ (s_.1 ≠ gb283) ∧ (gb284 ≠ s_.1) ∧ (s_.1 ≠ gb284) ∧ (s_.2 ≠ s_.1) ∧ (s_.1 ≠ s_.2) ∧ (w.heap.size ≤ s_.2) ∧ (w.heap.size ≤ s_.2) ∧ (gb283 ≠ s_.2) ∧ (s_.2 ≠ gb283) ∧ (gb284 ≠ s_.2) ∧ (s_.2 ≠ gb284) ∧ (Below w.heap.size w w')) ?_ ?_
    rotate_left
    ·intro hJ1_4_5
     refine join_ (σ := Unit) 4 #[tt,tt,tt,tt,ff,ff,ff,ff] (fun s_ => [(12, .agg #[.int .i64 t291, .int .i64 t292, .string t293]), (14, .agg #[.int .i64 t294, .int .i64 t295, .string t296])]) (fun s_ w' => (w'.cell? ⟨gb283, 0, none⟩ = some (.int .i64 t285) ∧ w'.cell? ⟨gb283, 1, none⟩ = some (.int .i64 t286) ∧ w'.cell? ⟨gb283, 2, none⟩ = some (.string t287) ∧ w'.cell? ⟨gb284, 0, none⟩ = some (.int .i64 t288) ∧ w'.cell? ⟨gb284, 1, none⟩ = some (.int .i64 t289) ∧ w'.cell? ⟨gb284, 2, none⟩ = some (.string t290)) ∧ (w'.heap[gb283]? = some (.cells #[.int .i64 t285, .int .i64 t286, .string t287] 27 (0, 0))) ∧ (w'.heap[gb284]? = some (.cells #[.int .i64 t288, .int .i64 t289, .string t290] 27 (0, 0))) ∧ (Below w.heap.size w w')) ?_ ?_
     rotate_left
     ·intro hJ1_3
      refine join_ (σ := Nat) 4 #[tt,tt,tt,ff,tt,ff,ff,ff] (fun s_ => [(12, .agg #[.int .i64 t291, .int .i64 t292, .string t293]), (5, .pointer (some ⟨s_, 0, none⟩))]) (fun s_ w' => (w'.cell? ⟨gb283, 0, none⟩ = some (.int .i64 t285) ∧ w'.cell? ⟨gb283, 1, none⟩ = some (.int .i64 t286) ∧ w'.cell? ⟨gb283, 2, none⟩ = some (.string t287) ∧ w'.cell? ⟨gb284, 0, none⟩ = some (.int .i64 t288) ∧ w'.cell? ⟨gb284, 1, none⟩ = some (.int .i64 t289) ∧ w'.cell? ⟨gb284, 2, none⟩ = some (.string t290)) ∧ (w'.heap[gb283]? = some (.cells #[.int .i64 t285, .int .i64 t286, .string t287] 27 (0, 0))) ∧ (w'.heap[gb284]? = some (.cells #[.int .i64 t288, .int .i64 t289, .string t290] 27 (0, 0))) ∧ (w'.heap[s_]? = some (.cells #[.int .i64 0, .int .i64 0, .string (⟨#[]⟩ : ByteArray)] 38 (0, 0))) ∧ (w.heap.size ≤ s_) ∧ (w.heap.size ≤ s_) ∧ (gb283 ≠ s_) ∧ (s_ ≠ gb283) ∧ (gb284 ≠ s_) ∧ (s_ ≠ gb284) ∧ (Below w.heap.size w w')) ?_ ?_
      rotate_left
      ·intro hJ1_4
       refine join_ (σ := Nat) 4 #[tt,tt,tt,ff,ff,tt,ff,ff] (fun s_ => [(12, .agg #[.int .i64 t291, .int .i64 t292, .string t293]), (6, .pointer (some ⟨s_, 0, none⟩))]) (fun s_ w' => (w'.cell? ⟨gb283, 0, none⟩ = some (.int .i64 t285) ∧ w'.cell? ⟨gb283, 1, none⟩ = some (.int .i64 t286) ∧ w'.cell? ⟨gb283, 2, none⟩ = some (.string t287) ∧ w'.cell? ⟨gb284, 0, none⟩ = some (.int .i64 t288) ∧ w'.cell? ⟨gb284, 1, none⟩ = some (.int .i64 t289) ∧ w'.cell? ⟨gb284, 2, none⟩ = some (.string t290)) ∧ (w'.heap[gb283]? = some (.cells #[.int .i64 t285, .int .i64 t286, .string t287] 27 (0, 0))) ∧ (w'.heap[gb284]? = some (.cells #[.int .i64 t288, .int .i64 t289, .string t290] 27 (0, 0))) ∧ (w'.heap[s_]? = some (.cells #[.int .i64 0, .int .i64 0, .string (⟨#[]⟩ : ByteArray)] 38 (0, 0))) ∧ (w.heap.size ≤ s_) ∧ (w.heap.size ≤ s_) ∧ (gb283 ≠ s_) ∧ (s_ ≠ gb283) ∧ (gb284 ≠ s_) ∧ (s_ ≠ gb284) ∧ (Below w.heap.size w w')) ?_ ?_
       rotate_left
       ·intro hJ1_5
        refine join_ (σ := Nat × Nat) 4 #[tt,ff,tt,ff,tt,tt,ff,ff] (fun s_ => [(5, .pointer (some ⟨s_.1, 0, none⟩)), (6, .pointer (some ⟨s_.2, 0, none⟩))]) (fun s_ w' => (w'.cell? ⟨gb283, 0, none⟩ = some (.int .i64 t285) ∧ w'.cell? ⟨gb283, 1, none⟩ = some (.int .i64 t286) ∧ w'.cell? ⟨gb283, 2, none⟩ = some (.string t287) ∧ w'.cell? ⟨gb284, 0, none⟩ = some (.int .i64 t288) ∧ w'.cell? ⟨gb284, 1, none⟩ = some (.int .i64 t289) ∧ w'.cell? ⟨gb284, 2, none⟩ = some (.string t290)) ∧ (w'.heap[gb283]? = some (.cells #[.int .i64 t285, .int .i64 t286, .string t287] 27 (0, 0))) ∧ (w'.heap[gb284]? = some (.cells #[.int .i64 t288, .int .i64 t289, .string t290] 27 (0, 0))) ∧ (w'.heap[s_.1]? = some (.cells #[.int .i64 0, .int .i64 0, .string (⟨#[]⟩ : ByteArray)] 38 (0, 0))) ∧ (w'.heap[s_.2]? = some (.cells #[.int .i64 0, .int .i64 0, .string (⟨#[]⟩ : ByteArray)] 38 (0, 0))) ∧ (w.heap.size ≤ s_.1) ∧ (w.heap.size ≤ s_.1) ∧ (gb283 ≠ s_.1) ∧ (s_.1 ≠ gb283) ∧ (gb284 ≠ s_.1) ∧ (s_.1 ≠ gb284) ∧ (s_.2 ≠ s_.1) ∧ (s_.1 ≠ s_.2) ∧ (w.heap.size ≤ s_.2) ∧ (w.heap.size ≤ s_.2) ∧ (gb283 ≠ s_.2) ∧ (s_.2 ≠ gb283) ∧ (gb284 ≠ s_.2) ∧ (s_.2 ≠ gb284) ∧ (Below w.heap.size w w')) ?_ ?_
        rotate_left
        ·intro hJ4_5
         refine join_ (σ := Unit) 5 #[tt,tt,tt,ff,ff,ff,ff,ff] (fun s_ => [(12, .agg #[.int .i64 t291, .int .i64 t292, .string t293])]) (fun s_ w' => (w'.cell? ⟨gb283, 0, none⟩ = some (.int .i64 t285) ∧ w'.cell? ⟨gb283, 1, none⟩ = some (.int .i64 t286) ∧ w'.cell? ⟨gb283, 2, none⟩ = some (.string t287) ∧ w'.cell? ⟨gb284, 0, none⟩ = some (.int .i64 t288) ∧ w'.cell? ⟨gb284, 1, none⟩ = some (.int .i64 t289) ∧ w'.cell? ⟨gb284, 2, none⟩ = some (.string t290)) ∧ (w'.heap[gb283]? = some (.cells #[.int .i64 t285, .int .i64 t286, .string t287] 27 (0, 0))) ∧ (w'.heap[gb284]? = some (.cells #[.int .i64 t288, .int .i64 t289, .string t290] 27 (0, 0))) ∧ (Below w.heap.size w w')) ?_ ?_
         rotate_left
         ·intro hJ1
          refine join_ (σ := Nat) 5 #[tt,ff,tt,ff,tt,ff,ff,ff] (fun s_ => [(5, .pointer (some ⟨s_, 0, none⟩))]) (fun s_ w' => (w'.cell? ⟨gb283, 0, none⟩ = some (.int .i64 t285) ∧ w'.cell? ⟨gb283, 1, none⟩ = some (.int .i64 t286) ∧ w'.cell? ⟨gb283, 2, none⟩ = some (.string t287) ∧ w'.cell? ⟨gb284, 0, none⟩ = some (.int .i64 t288) ∧ w'.cell? ⟨gb284, 1, none⟩ = some (.int .i64 t289) ∧ w'.cell? ⟨gb284, 2, none⟩ = some (.string t290)) ∧ (w'.heap[gb283]? = some (.cells #[.int .i64 t285, .int .i64 t286, .string t287] 27 (0, 0))) ∧ (w'.heap[gb284]? = some (.cells #[.int .i64 t288, .int .i64 t289, .string t290] 27 (0, 0))) ∧ (w'.heap[s_]? = some (.cells #[.int .i64 0, .int .i64 0, .string (⟨#[]⟩ : ByteArray)] 38 (0, 0))) ∧ (w.heap.size ≤ s_) ∧ (w.heap.size ≤ s_) ∧ (gb283 ≠ s_) ∧ (s_ ≠ gb283) ∧ (gb284 ≠ s_) ∧ (s_ ≠ gb284) ∧ (Below w.heap.size w w')) ?_ ?_
          rotate_left
          ·intro hJ4
           refine join_ (σ := Nat) 5 #[tt,ff,tt,ff,ff,tt,ff,ff] (fun s_ => [(6, .pointer (some ⟨s_, 0, none⟩))]) (fun s_ w' => (w'.cell? ⟨gb283, 0, none⟩ = some (.int .i64 t285) ∧ w'.cell? ⟨gb283, 1, none⟩ = some (.int .i64 t286) ∧ w'.cell? ⟨gb283, 2, none⟩ = some (.string t287) ∧ w'.cell? ⟨gb284, 0, none⟩ = some (.int .i64 t288) ∧ w'.cell? ⟨gb284, 1, none⟩ = some (.int .i64 t289) ∧ w'.cell? ⟨gb284, 2, none⟩ = some (.string t290)) ∧ (w'.heap[gb283]? = some (.cells #[.int .i64 t285, .int .i64 t286, .string t287] 27 (0, 0))) ∧ (w'.heap[gb284]? = some (.cells #[.int .i64 t288, .int .i64 t289, .string t290] 27 (0, 0))) ∧ (w'.heap[s_]? = some (.cells #[.int .i64 0, .int .i64 0, .string (⟨#[]⟩ : ByteArray)] 38 (0, 0))) ∧ (w.heap.size ≤ s_) ∧ (w.heap.size ≤ s_) ∧ (gb283 ≠ s_) ∧ (s_ ≠ gb283) ∧ (gb284 ≠ s_) ∧ (s_ ≠ gb284) ∧ (Below w.heap.size w w')) ?_ ?_
           rotate_left
           ·intro hJ5
            refine three_ (i := 1) (j := 4) (k := 5) (Ni := some 12) (Nj := some 5) (Nk := some 6) #[tt,tt,tt,ff,ff,ff,ff,ff] #[tt,ff,tt,ff,tt,ff,ff,ff] #[tt,ff,tt,ff,ff,tt,ff,ff] rfl rfl rfl rfl rfl rfl (three_of HT_.out (by kernel_rfl)) (by decide) (by decide) (by decide) (fun K hK => ?_) (fun K hK => ?_) (fun K hK => ?_)
            ·skip
             refine goes_ Tryd.func21 (by kernel_rfl) rfl #[.agg #[.int .i64 t285, .int .i64 t286, .string t287]] (by rfl) rfl rfl (by (try simp only [List.map_toArray, List.map_cons, List.map_nil]); first | done | rfl | (simp only [List.length_drop, List.length_take]; rfl)) ?_
             with_reducible refine (scribelaw06_Told.calls t285 t286 t287 t291 t292 t293 _ ?side1 A5.out).mono ?_
             (case side1 => exact TB.below hT HB.out)
             rintro e w21 ⟨rfl, hb⟩
             refine ⟨_, rfl, ?_⟩
             have n0_ := Aside0.mk (blk_below BK283.out hb)
             have n1_ := Aside0.mk (blk_below BK284.out hb)
             have n2_ := Aside0.mk (below_step HB.out hb)
             clear BK283
             clear BK284
             clear HB
             have BK283 := n0_
             have BK284 := n1_
             have HB := n2_
             clear n0_ n1_ n2_
             (try clear hb)
             (try clear hb2)
             (try clear hk)
             (try clear hi)
             refine hK.out _ _ ⟨(blk_cell BK283.out 0).trans rfl, (blk_cell BK283.out 1).trans rfl, (blk_cell BK283.out 2).trans rfl, (blk_cell BK284.out 0).trans rfl, (blk_cell BK284.out 1).trans rfl, (blk_cell BK284.out 2).trans rfl⟩ (fun hHeld => ?_)
             clear hK K
             refine norm_ (a' := ?_) ?_ ?_
             rotate_left
             ·show Act.put _ (some 12) _ = _
              simp only [Act.put, setA, setZ, setS, i64_w, i32_w]
              rfl
             exact norm_ (by first | (simp only [putAll, Act.put, List.setIfInBounds_toArray, List.set_cons_zero, List.set_cons_succ]; done) | (simp only [putAll, Act.put, List.setIfInBounds_toArray, List.set_cons_zero, List.set_cons_succ]; rfl)) (hJ1 () _ ⟨hHeld, BK283.out, BK284.out, HB.out⟩)
            ·skip
             refine box_step ?hg (N := 5) ?hd (cs := #[.int .i64 0, .int .i64 0, .string (⟨#[]⟩ : ByteArray)]) (t := 38) ?hr ?_; (case hd => rfl); (case hg => rfl); (case hr => first | (go_simp; done) | (go_simp; rfl))
             intro gb297 hg w21 hbox hb
             have n0_ := Aside0.mk (blk_below BK283.out hb)
             have n1_ := Aside0.mk (blk_below BK284.out hb)
             have n2_ := Aside0.mk (below_step HB.out hb)
             have n3_ := Aside0.mk (hbox)
             have n4_ := Aside0.mk ((by rw [hg]; exact (below_size HB.out) : w.heap.size ≤ gb297))
             have n5_ := Aside0.mk ((by rw [hg]; exact (below_size HB.out) : w.heap.size ≤ gb297))
             have n6_ := Aside0.mk ((by rw [hg]; exact Nat.ne_of_lt (blk_lt (g := gb283) (o := .cells #[.int .i64 t285, .int .i64 t286, .string t287] 27 (0, 0)) BK283.out) : gb283 ≠ gb297))
             have n7_ := Aside0.mk ((by rw [hg]; exact Nat.ne_of_gt (blk_lt (g := gb283) (o := .cells #[.int .i64 t285, .int .i64 t286, .string t287] 27 (0, 0)) BK283.out) : gb297 ≠ gb283))
             have n8_ := Aside0.mk ((by rw [hg]; exact Nat.ne_of_lt (blk_lt (g := gb284) (o := .cells #[.int .i64 t288, .int .i64 t289, .string t290] 27 (0, 0)) BK284.out) : gb284 ≠ gb297))
             have n9_ := Aside0.mk ((by rw [hg]; exact Nat.ne_of_gt (blk_lt (g := gb284) (o := .cells #[.int .i64 t288, .int .i64 t289, .string t290] 27 (0, 0)) BK284.out) : gb297 ≠ gb284))
             clear BK283
             clear BK284
             clear HB
             have BK283 := n0_
             have BK284 := n1_
             have HB := n2_
             have BK297 := n3_
             have GW297 := n4_
             have GE297 := n5_
             have NB283_297 := n6_
             have NB297_283 := n7_
             have NB284_297 := n8_
             have NB297_284 := n9_
             clear n0_ n1_ n2_ n3_ n4_ n5_ n6_ n7_ n8_ n9_
             clear hb hbox hg
             refine hK.out _ _ ⟨(blk_cell BK283.out 0).trans rfl, (blk_cell BK283.out 1).trans rfl, (blk_cell BK283.out 2).trans rfl, (blk_cell BK284.out 0).trans rfl, (blk_cell BK284.out 1).trans rfl, (blk_cell BK284.out 2).trans rfl⟩ (fun hHeld => ?_)
             clear hK K
             refine norm_ (a' := ?_) ?_ ?_
             rotate_left
             ·show Act.put _ (some 5) _ = _
              simp only [Act.put, setA, setZ, setS, i64_w, i32_w]
              rfl
             exact norm_ (by first | (simp only [putAll, Act.put, List.setIfInBounds_toArray, List.set_cons_zero, List.set_cons_succ]; done) | (simp only [putAll, Act.put, List.setIfInBounds_toArray, List.set_cons_zero, List.set_cons_succ]; rfl)) (hJ4 (gb297) _ ⟨hHeld, BK283.out, BK284.out, BK297.out, GW297.out, GE297.out, NB283_297.out, NB297_283.out, NB284_297.out, NB297_284.out, HB.out⟩)
            ·skip
             refine box_step ?hg (N := 6) ?hd (cs := #[.int .i64 0, .int .i64 0, .string (⟨#[]⟩ : ByteArray)]) (t := 38) ?hr ?_; (case hd => rfl); (case hg => rfl); (case hr => first | (go_simp; done) | (go_simp; rfl))
             intro gb298 hg w21 hbox hb
             have n0_ := Aside0.mk (blk_below BK283.out hb)
             have n1_ := Aside0.mk (blk_below BK284.out hb)
             have n2_ := Aside0.mk (below_step HB.out hb)
             have n3_ := Aside0.mk (hbox)
             have n4_ := Aside0.mk ((by rw [hg]; exact (below_size HB.out) : w.heap.size ≤ gb298))
             have n5_ := Aside0.mk ((by rw [hg]; exact (below_size HB.out) : w.heap.size ≤ gb298))
             have n6_ := Aside0.mk ((by rw [hg]; exact Nat.ne_of_lt (blk_lt (g := gb283) (o := .cells #[.int .i64 t285, .int .i64 t286, .string t287] 27 (0, 0)) BK283.out) : gb283 ≠ gb298))
             have n7_ := Aside0.mk ((by rw [hg]; exact Nat.ne_of_gt (blk_lt (g := gb283) (o := .cells #[.int .i64 t285, .int .i64 t286, .string t287] 27 (0, 0)) BK283.out) : gb298 ≠ gb283))
             have n8_ := Aside0.mk ((by rw [hg]; exact Nat.ne_of_lt (blk_lt (g := gb284) (o := .cells #[.int .i64 t288, .int .i64 t289, .string t290] 27 (0, 0)) BK284.out) : gb284 ≠ gb298))
             have n9_ := Aside0.mk ((by rw [hg]; exact Nat.ne_of_gt (blk_lt (g := gb284) (o := .cells #[.int .i64 t288, .int .i64 t289, .string t290] 27 (0, 0)) BK284.out) : gb298 ≠ gb284))
             clear BK283
             clear BK284
             clear HB
             have BK283 := n0_
             have BK284 := n1_
             have HB := n2_
             have BK298 := n3_
             have GW298 := n4_
             have GE298 := n5_
             have NB283_298 := n6_
             have NB298_283 := n7_
             have NB284_298 := n8_
             have NB298_284 := n9_
             clear n0_ n1_ n2_ n3_ n4_ n5_ n6_ n7_ n8_ n9_
             clear hb hbox hg
             refine hK.out _ _ ⟨(blk_cell BK283.out 0).trans rfl, (blk_cell BK283.out 1).trans rfl, (blk_cell BK283.out 2).trans rfl, (blk_cell BK284.out 0).trans rfl, (blk_cell BK284.out 1).trans rfl, (blk_cell BK284.out 2).trans rfl⟩ (fun hHeld => ?_)
             clear hK K
             refine norm_ (a' := ?_) ?_ ?_
             rotate_left
             ·show Act.put _ (some 6) _ = _
              simp only [Act.put, setA, setZ, setS, i64_w, i32_w]
              rfl
             exact norm_ (by first | (simp only [putAll, Act.put, List.setIfInBounds_toArray, List.set_cons_zero, List.set_cons_succ]; done) | (simp only [putAll, Act.put, List.setIfInBounds_toArray, List.set_cons_zero, List.set_cons_succ]; rfl)) (hJ5 (gb298) _ ⟨hHeld, BK283.out, BK284.out, BK298.out, GW298.out, GE298.out, NB283_298.out, NB298_283.out, NB284_298.out, NB298_284.out, HB.out⟩)
           ·skip
            rintro gb298 w22 ⟨hS_, h0_, h1_, h2_, h3_, h4_, h5_, h6_, h7_, h8_, h9_⟩
            have n0_ : Aside0 (w22.heap[gb283]? = some (.cells #[.int .i64 t285, .int .i64 t286, .string t287] 27 (0, 0))) := ⟨h0_⟩
            have n1_ : Aside0 (w22.heap[gb284]? = some (.cells #[.int .i64 t288, .int .i64 t289, .string t290] 27 (0, 0))) := ⟨h1_⟩
            have n2_ : Aside0 (w22.heap[gb298]? = some (.cells #[.int .i64 0, .int .i64 0, .string (⟨#[]⟩ : ByteArray)] 38 (0, 0))) := ⟨h2_⟩
            have n3_ : Aside0 (w.heap.size ≤ gb298) := ⟨h3_⟩
            have n4_ : Aside0 (w.heap.size ≤ gb298) := ⟨h4_⟩
            have n5_ : Aside0 (gb283 ≠ gb298) := ⟨h5_⟩
            have n6_ : Aside0 (gb298 ≠ gb283) := ⟨h6_⟩
            have n7_ : Aside0 (gb284 ≠ gb298) := ⟨h7_⟩
            have n8_ : Aside0 (gb298 ≠ gb284) := ⟨h8_⟩
            have n9_ : Aside0 (Below w.heap.size w w22) := ⟨h9_⟩
            clear BK283
            clear BK284
            clear HB
            clear h0_ h1_ h2_ h3_ h4_ h5_ h6_ h7_ h8_ h9_
            have BK283 := n0_
            have BK284 := n1_
            have BK298 := n2_
            have GW298 := n3_
            have GE298 := n4_
            have NB283_298 := n5_
            have NB298_283 := n6_
            have NB284_298 := n7_
            have NB298_284 := n8_
            have HB := n9_
            clear n0_ n1_ n2_ n3_ n4_ n5_ n6_ n7_ n8_ n9_
            have hHeld : w22.cell? ⟨gb283, 0, none⟩ = some (.int .i64 t285) ∧ w22.cell? ⟨gb283, 1, none⟩ = some (.int .i64 t286) ∧ w22.cell? ⟨gb283, 2, none⟩ = some (.string t287) ∧ w22.cell? ⟨gb284, 0, none⟩ = some (.int .i64 t288) ∧ w22.cell? ⟨gb284, 1, none⟩ = some (.int .i64 t289) ∧ w22.cell? ⟨gb284, 2, none⟩ = some (.string t290) := hS_
            refine norm_ (a' := ?_) ?_ ?_
            rotate_left
            ·simp only [putAll, Act.put, List.setIfInBounds_toArray, List.set_cons_zero, List.set_cons_succ]
             rfl
            refine two_ (i := 1) (j := 4) (Ni := some 12) (Nj := some 5) #[tt,tt,tt,ff,ff,tt,ff,ff] #[tt,ff,tt,ff,tt,tt,ff,ff] rfl rfl rfl rfl (two_of HT_.out (by kernel_rfl)) (by decide) (by decide) (fun K hK => ?_) (fun K hK => ?_)
            ·skip
             refine goes_ Tryd.func21 (by kernel_rfl) rfl #[.agg #[.int .i64 t285, .int .i64 t286, .string t287]] (by rfl) rfl rfl (by (try simp only [List.map_toArray, List.map_cons, List.map_nil]); first | done | rfl | (simp only [List.length_drop, List.length_take]; rfl)) ?_
             with_reducible refine (scribelaw06_Told.calls t285 t286 t287 t291 t292 t293 _ ?side1 A5.out).mono ?_
             (case side1 => exact TB.below hT HB.out)
             rintro e w23 ⟨rfl, hb⟩
             refine ⟨_, rfl, ?_⟩
             have n0_ := Aside0.mk (blk_below BK283.out hb)
             have n1_ := Aside0.mk (blk_below BK284.out hb)
             have n2_ := Aside0.mk (blk_below BK298.out hb)
             have n3_ := Aside0.mk (below_step HB.out hb)
             clear BK283
             clear BK284
             clear BK298
             clear HB
             have BK283 := n0_
             have BK284 := n1_
             have BK298 := n2_
             have HB := n3_
             clear n0_ n1_ n2_ n3_
             (try clear hb)
             (try clear hb2)
             (try clear hk)
             (try clear hi)
             refine hK.out _ _ ⟨(blk_cell BK283.out 0).trans rfl, (blk_cell BK283.out 1).trans rfl, (blk_cell BK283.out 2).trans rfl, (blk_cell BK284.out 0).trans rfl, (blk_cell BK284.out 1).trans rfl, (blk_cell BK284.out 2).trans rfl⟩ (fun hHeld => ?_)
             clear hK K
             refine norm_ (a' := ?_) ?_ ?_
             rotate_left
             ·show Act.put _ (some 12) _ = _
              simp only [Act.put, setA, setZ, setS, i64_w, i32_w]
              rfl
             exact norm_ (by first | (simp only [putAll, Act.put, List.setIfInBounds_toArray, List.set_cons_zero, List.set_cons_succ]; done) | (simp only [putAll, Act.put, List.setIfInBounds_toArray, List.set_cons_zero, List.set_cons_succ]; rfl)) (hJ1_5 (gb298) _ ⟨hHeld, BK283.out, BK284.out, BK298.out, GW298.out, GE298.out, NB283_298.out, NB298_283.out, NB284_298.out, NB298_284.out, HB.out⟩)
            ·skip
             refine box_step ?hg (N := 5) ?hd (cs := #[.int .i64 0, .int .i64 0, .string (⟨#[]⟩ : ByteArray)]) (t := 38) ?hr ?_; (case hd => rfl); (case hg => rfl); (case hr => first | (go_simp; done) | (go_simp; rfl))
             intro gb297 hg w23 hbox hb
             have n0_ := Aside0.mk (blk_below BK283.out hb)
             have n1_ := Aside0.mk (blk_below BK284.out hb)
             have n2_ := Aside0.mk (blk_below BK298.out hb)
             have n3_ := Aside0.mk (below_step HB.out hb)
             have n4_ := Aside0.mk (hbox)
             have n5_ := Aside0.mk ((by rw [hg]; exact (below_size HB.out) : w.heap.size ≤ gb297))
             have n6_ := Aside0.mk ((by rw [hg]; exact (below_size HB.out) : w.heap.size ≤ gb297))
             have n7_ := Aside0.mk ((by rw [hg]; exact Nat.ne_of_lt (blk_lt (g := gb283) (o := .cells #[.int .i64 t285, .int .i64 t286, .string t287] 27 (0, 0)) BK283.out) : gb283 ≠ gb297))
             have n8_ := Aside0.mk ((by rw [hg]; exact Nat.ne_of_gt (blk_lt (g := gb283) (o := .cells #[.int .i64 t285, .int .i64 t286, .string t287] 27 (0, 0)) BK283.out) : gb297 ≠ gb283))
             have n9_ := Aside0.mk ((by rw [hg]; exact Nat.ne_of_lt (blk_lt (g := gb284) (o := .cells #[.int .i64 t288, .int .i64 t289, .string t290] 27 (0, 0)) BK284.out) : gb284 ≠ gb297))
             have n10_ := Aside0.mk ((by rw [hg]; exact Nat.ne_of_gt (blk_lt (g := gb284) (o := .cells #[.int .i64 t288, .int .i64 t289, .string t290] 27 (0, 0)) BK284.out) : gb297 ≠ gb284))
             have n11_ := Aside0.mk ((by rw [hg]; exact Nat.ne_of_lt (blk_lt (g := gb298) (o := .cells #[.int .i64 0, .int .i64 0, .string (⟨#[]⟩ : ByteArray)] 38 (0, 0)) BK298.out) : gb298 ≠ gb297))
             have n12_ := Aside0.mk ((by rw [hg]; exact Nat.ne_of_gt (blk_lt (g := gb298) (o := .cells #[.int .i64 0, .int .i64 0, .string (⟨#[]⟩ : ByteArray)] 38 (0, 0)) BK298.out) : gb297 ≠ gb298))
             clear BK283
             clear BK284
             clear BK298
             clear HB
             have BK283 := n0_
             have BK284 := n1_
             have BK298 := n2_
             have HB := n3_
             have BK297 := n4_
             have GW297 := n5_
             have GE297 := n6_
             have NB283_297 := n7_
             have NB297_283 := n8_
             have NB284_297 := n9_
             have NB297_284 := n10_
             have NB298_297 := n11_
             have NB297_298 := n12_
             clear n0_ n1_ n2_ n3_ n4_ n5_ n6_ n7_ n8_ n9_ n10_ n11_ n12_
             clear hb hbox hg
             refine hK.out _ _ ⟨(blk_cell BK283.out 0).trans rfl, (blk_cell BK283.out 1).trans rfl, (blk_cell BK283.out 2).trans rfl, (blk_cell BK284.out 0).trans rfl, (blk_cell BK284.out 1).trans rfl, (blk_cell BK284.out 2).trans rfl⟩ (fun hHeld => ?_)
             clear hK K
             refine norm_ (a' := ?_) ?_ ?_
             rotate_left
             ·show Act.put _ (some 5) _ = _
              simp only [Act.put, setA, setZ, setS, i64_w, i32_w]
              rfl
             exact norm_ (by first | (simp only [putAll, Act.put, List.setIfInBounds_toArray, List.set_cons_zero, List.set_cons_succ]; done) | (simp only [putAll, Act.put, List.setIfInBounds_toArray, List.set_cons_zero, List.set_cons_succ]; rfl)) (hJ4_5 (gb297, gb298) _ ⟨hHeld, BK283.out, BK284.out, BK297.out, BK298.out, GW297.out, GE297.out, NB283_297.out, NB297_283.out, NB284_297.out, NB297_284.out, NB298_297.out, NB297_298.out, GW298.out, GE298.out, NB283_298.out, NB298_283.out, NB284_298.out, NB298_284.out, HB.out⟩)
          ·skip
           rintro gb297 w22 ⟨hS_, h0_, h1_, h2_, h3_, h4_, h5_, h6_, h7_, h8_, h9_⟩
           have n0_ : Aside0 (w22.heap[gb283]? = some (.cells #[.int .i64 t285, .int .i64 t286, .string t287] 27 (0, 0))) := ⟨h0_⟩
           have n1_ : Aside0 (w22.heap[gb284]? = some (.cells #[.int .i64 t288, .int .i64 t289, .string t290] 27 (0, 0))) := ⟨h1_⟩
           have n2_ : Aside0 (w22.heap[gb297]? = some (.cells #[.int .i64 0, .int .i64 0, .string (⟨#[]⟩ : ByteArray)] 38 (0, 0))) := ⟨h2_⟩
           have n3_ : Aside0 (w.heap.size ≤ gb297) := ⟨h3_⟩
           have n4_ : Aside0 (w.heap.size ≤ gb297) := ⟨h4_⟩
           have n5_ : Aside0 (gb283 ≠ gb297) := ⟨h5_⟩
           have n6_ : Aside0 (gb297 ≠ gb283) := ⟨h6_⟩
           have n7_ : Aside0 (gb284 ≠ gb297) := ⟨h7_⟩
           have n8_ : Aside0 (gb297 ≠ gb284) := ⟨h8_⟩
           have n9_ : Aside0 (Below w.heap.size w w22) := ⟨h9_⟩
           clear BK283
           clear BK284
           clear HB
           clear h0_ h1_ h2_ h3_ h4_ h5_ h6_ h7_ h8_ h9_
           have BK283 := n0_
           have BK284 := n1_
           have BK297 := n2_
           have GW297 := n3_
           have GE297 := n4_
           have NB283_297 := n5_
           have NB297_283 := n6_
           have NB284_297 := n7_
           have NB297_284 := n8_
           have HB := n9_
           clear n0_ n1_ n2_ n3_ n4_ n5_ n6_ n7_ n8_ n9_
           have hHeld : w22.cell? ⟨gb283, 0, none⟩ = some (.int .i64 t285) ∧ w22.cell? ⟨gb283, 1, none⟩ = some (.int .i64 t286) ∧ w22.cell? ⟨gb283, 2, none⟩ = some (.string t287) ∧ w22.cell? ⟨gb284, 0, none⟩ = some (.int .i64 t288) ∧ w22.cell? ⟨gb284, 1, none⟩ = some (.int .i64 t289) ∧ w22.cell? ⟨gb284, 2, none⟩ = some (.string t290) := hS_
           refine norm_ (a' := ?_) ?_ ?_
           rotate_left
           ·simp only [putAll, Act.put, List.setIfInBounds_toArray, List.set_cons_zero, List.set_cons_succ]
            rfl
           refine two_ (i := 1) (j := 5) (Ni := some 12) (Nj := some 6) #[tt,tt,tt,ff,tt,ff,ff,ff] #[tt,ff,tt,ff,tt,tt,ff,ff] rfl rfl rfl rfl (two_of HT_.out (by kernel_rfl)) (by decide) (by decide) (fun K hK => ?_) (fun K hK => ?_)
           ·skip
            refine goes_ Tryd.func21 (by kernel_rfl) rfl #[.agg #[.int .i64 t285, .int .i64 t286, .string t287]] (by rfl) rfl rfl (by (try simp only [List.map_toArray, List.map_cons, List.map_nil]); first | done | rfl | (simp only [List.length_drop, List.length_take]; rfl)) ?_
            with_reducible refine (scribelaw06_Told.calls t285 t286 t287 t291 t292 t293 _ ?side1 A5.out).mono ?_
            (case side1 => exact TB.below hT HB.out)
            rintro e w23 ⟨rfl, hb⟩
            refine ⟨_, rfl, ?_⟩
            have n0_ := Aside0.mk (blk_below BK283.out hb)
            have n1_ := Aside0.mk (blk_below BK284.out hb)
            have n2_ := Aside0.mk (blk_below BK297.out hb)
            have n3_ := Aside0.mk (below_step HB.out hb)
            clear BK283
            clear BK284
            clear BK297
            clear HB
            have BK283 := n0_
            have BK284 := n1_
            have BK297 := n2_
            have HB := n3_
            clear n0_ n1_ n2_ n3_
            (try clear hb)
            (try clear hb2)
            (try clear hk)
            (try clear hi)
            refine hK.out _ _ ⟨(blk_cell BK283.out 0).trans rfl, (blk_cell BK283.out 1).trans rfl, (blk_cell BK283.out 2).trans rfl, (blk_cell BK284.out 0).trans rfl, (blk_cell BK284.out 1).trans rfl, (blk_cell BK284.out 2).trans rfl⟩ (fun hHeld => ?_)
            clear hK K
            refine norm_ (a' := ?_) ?_ ?_
            rotate_left
            ·show Act.put _ (some 12) _ = _
             simp only [Act.put, setA, setZ, setS, i64_w, i32_w]
             rfl
            exact norm_ (by first | (simp only [putAll, Act.put, List.setIfInBounds_toArray, List.set_cons_zero, List.set_cons_succ]; done) | (simp only [putAll, Act.put, List.setIfInBounds_toArray, List.set_cons_zero, List.set_cons_succ]; rfl)) (hJ1_4 (gb297) _ ⟨hHeld, BK283.out, BK284.out, BK297.out, GW297.out, GE297.out, NB283_297.out, NB297_283.out, NB284_297.out, NB297_284.out, HB.out⟩)
           ·skip
            refine box_step ?hg (N := 6) ?hd (cs := #[.int .i64 0, .int .i64 0, .string (⟨#[]⟩ : ByteArray)]) (t := 38) ?hr ?_; (case hd => rfl); (case hg => rfl); (case hr => first | (go_simp; done) | (go_simp; rfl))
            intro gb298 hg w23 hbox hb
            have n0_ := Aside0.mk (blk_below BK283.out hb)
            have n1_ := Aside0.mk (blk_below BK284.out hb)
            have n2_ := Aside0.mk (blk_below BK297.out hb)
            have n3_ := Aside0.mk (below_step HB.out hb)
            have n4_ := Aside0.mk (hbox)
            have n5_ := Aside0.mk ((by rw [hg]; exact (below_size HB.out) : w.heap.size ≤ gb298))
            have n6_ := Aside0.mk ((by rw [hg]; exact (below_size HB.out) : w.heap.size ≤ gb298))
            have n7_ := Aside0.mk ((by rw [hg]; exact Nat.ne_of_lt (blk_lt (g := gb283) (o := .cells #[.int .i64 t285, .int .i64 t286, .string t287] 27 (0, 0)) BK283.out) : gb283 ≠ gb298))
            have n8_ := Aside0.mk ((by rw [hg]; exact Nat.ne_of_gt (blk_lt (g := gb283) (o := .cells #[.int .i64 t285, .int .i64 t286, .string t287] 27 (0, 0)) BK283.out) : gb298 ≠ gb283))
            have n9_ := Aside0.mk ((by rw [hg]; exact Nat.ne_of_lt (blk_lt (g := gb284) (o := .cells #[.int .i64 t288, .int .i64 t289, .string t290] 27 (0, 0)) BK284.out) : gb284 ≠ gb298))
            have n10_ := Aside0.mk ((by rw [hg]; exact Nat.ne_of_gt (blk_lt (g := gb284) (o := .cells #[.int .i64 t288, .int .i64 t289, .string t290] 27 (0, 0)) BK284.out) : gb298 ≠ gb284))
            have n11_ := Aside0.mk ((by rw [hg]; exact Nat.ne_of_lt (blk_lt (g := gb297) (o := .cells #[.int .i64 0, .int .i64 0, .string (⟨#[]⟩ : ByteArray)] 38 (0, 0)) BK297.out) : gb297 ≠ gb298))
            have n12_ := Aside0.mk ((by rw [hg]; exact Nat.ne_of_gt (blk_lt (g := gb297) (o := .cells #[.int .i64 0, .int .i64 0, .string (⟨#[]⟩ : ByteArray)] 38 (0, 0)) BK297.out) : gb298 ≠ gb297))
            clear BK283
            clear BK284
            clear BK297
            clear HB
            have BK283 := n0_
            have BK284 := n1_
            have BK297 := n2_
            have HB := n3_
            have BK298 := n4_
            have GW298 := n5_
            have GE298 := n6_
            have NB283_298 := n7_
            have NB298_283 := n8_
            have NB284_298 := n9_
            have NB298_284 := n10_
            have NB297_298 := n11_
            have NB298_297 := n12_
            clear n0_ n1_ n2_ n3_ n4_ n5_ n6_ n7_ n8_ n9_ n10_ n11_ n12_
            clear hb hbox hg
            refine hK.out _ _ ⟨(blk_cell BK283.out 0).trans rfl, (blk_cell BK283.out 1).trans rfl, (blk_cell BK283.out 2).trans rfl, (blk_cell BK284.out 0).trans rfl, (blk_cell BK284.out 1).trans rfl, (blk_cell BK284.out 2).trans rfl⟩ (fun hHeld => ?_)
            clear hK K
            refine norm_ (a' := ?_) ?_ ?_
            rotate_left
            ·show Act.put _ (some 6) _ = _
             simp only [Act.put, setA, setZ, setS, i64_w, i32_w]
             rfl
            exact norm_ (by first | (simp only [putAll, Act.put, List.setIfInBounds_toArray, List.set_cons_zero, List.set_cons_succ]; done) | (simp only [putAll, Act.put, List.setIfInBounds_toArray, List.set_cons_zero, List.set_cons_succ]; rfl)) (hJ4_5 (gb297, gb298) _ ⟨hHeld, BK283.out, BK284.out, BK297.out, BK298.out, GW297.out, GE297.out, NB283_297.out, NB297_283.out, NB284_297.out, NB297_284.out, NB298_297.out, NB297_298.out, GW298.out, GE298.out, NB283_298.out, NB298_283.out, NB284_298.out, NB298_284.out, HB.out⟩)
         ·skip
          rintro _ w22 ⟨hS_, h0_, h1_, h2_⟩
          have n0_ : Aside0 (w22.heap[gb283]? = some (.cells #[.int .i64 t285, .int .i64 t286, .string t287] 27 (0, 0))) := ⟨h0_⟩
          have n1_ : Aside0 (w22.heap[gb284]? = some (.cells #[.int .i64 t288, .int .i64 t289, .string t290] 27 (0, 0))) := ⟨h1_⟩
          have n2_ : Aside0 (Below w.heap.size w w22) := ⟨h2_⟩
          clear BK283
          clear BK284
          clear HB
          clear h0_ h1_ h2_
          have BK283 := n0_
          have BK284 := n1_
          have HB := n2_
          clear n0_ n1_ n2_
          have hHeld : w22.cell? ⟨gb283, 0, none⟩ = some (.int .i64 t285) ∧ w22.cell? ⟨gb283, 1, none⟩ = some (.int .i64 t286) ∧ w22.cell? ⟨gb283, 2, none⟩ = some (.string t287) ∧ w22.cell? ⟨gb284, 0, none⟩ = some (.int .i64 t288) ∧ w22.cell? ⟨gb284, 1, none⟩ = some (.int .i64 t289) ∧ w22.cell? ⟨gb284, 2, none⟩ = some (.string t290) := hS_
          refine norm_ (a' := ?_) ?_ ?_
          rotate_left
          ·simp only [putAll, Act.put, List.setIfInBounds_toArray, List.set_cons_zero, List.set_cons_succ]
           rfl
          refine three_ (i := 3) (j := 4) (k := 5) (Ni := some 14) (Nj := some 5) (Nk := some 6) #[tt,tt,tt,tt,ff,ff,ff,ff] #[tt,tt,tt,ff,tt,ff,ff,ff] #[tt,tt,tt,ff,ff,tt,ff,ff] rfl rfl rfl rfl rfl rfl (three_of HT_.out (by kernel_rfl)) (by decide) (by decide) (by decide) (fun K hK => ?_) (fun K hK => ?_) (fun K hK => ?_)
          ·skip
           refine goes_ Tryd.func21 (by kernel_rfl) rfl #[.agg #[.int .i64 t288, .int .i64 t289, .string t290]] (by rfl) rfl rfl (by (try simp only [List.map_toArray, List.map_cons, List.map_nil]); first | done | rfl | (simp only [List.length_drop, List.length_take]; rfl)) ?_
           with_reducible refine (scribelaw06_Told.calls t288 t289 t290 t294 t295 t296 _ ?side1 A6.out).mono ?_
           (case side1 => exact TB.below hT HB.out)
           rintro e w23 ⟨rfl, hb⟩
           refine ⟨_, rfl, ?_⟩
           have n0_ := Aside0.mk (blk_below BK283.out hb)
           have n1_ := Aside0.mk (blk_below BK284.out hb)
           have n2_ := Aside0.mk (below_step HB.out hb)
           clear BK283
           clear BK284
           clear HB
           have BK283 := n0_
           have BK284 := n1_
           have HB := n2_
           clear n0_ n1_ n2_
           (try clear hb)
           (try clear hb2)
           (try clear hk)
           (try clear hi)
           refine hK.out _ _ ⟨(blk_cell BK283.out 0).trans rfl, (blk_cell BK283.out 1).trans rfl, (blk_cell BK283.out 2).trans rfl, (blk_cell BK284.out 0).trans rfl, (blk_cell BK284.out 1).trans rfl, (blk_cell BK284.out 2).trans rfl⟩ (fun hHeld => ?_)
           clear hK K
           refine norm_ (a' := ?_) ?_ ?_
           rotate_left
           ·show Act.put _ (some 14) _ = _
            simp only [Act.put, setA, setZ, setS, i64_w, i32_w]
            rfl
           exact norm_ (by first | (simp only [putAll, Act.put, List.setIfInBounds_toArray, List.set_cons_zero, List.set_cons_succ]; done) | (simp only [putAll, Act.put, List.setIfInBounds_toArray, List.set_cons_zero, List.set_cons_succ]; rfl)) (hJ1_3 () _ ⟨hHeld, BK283.out, BK284.out, HB.out⟩)
          ·skip
           refine box_step ?hg (N := 5) ?hd (cs := #[.int .i64 0, .int .i64 0, .string (⟨#[]⟩ : ByteArray)]) (t := 38) ?hr ?_; (case hd => rfl); (case hg => rfl); (case hr => first | (go_simp; done) | (go_simp; rfl))
           intro gb297 hg w23 hbox hb
           have n0_ := Aside0.mk (blk_below BK283.out hb)
           have n1_ := Aside0.mk (blk_below BK284.out hb)
           have n2_ := Aside0.mk (below_step HB.out hb)
           have n3_ := Aside0.mk (hbox)
           have n4_ := Aside0.mk ((by rw [hg]; exact (below_size HB.out) : w.heap.size ≤ gb297))
           have n5_ := Aside0.mk ((by rw [hg]; exact (below_size HB.out) : w.heap.size ≤ gb297))
           have n6_ := Aside0.mk ((by rw [hg]; exact Nat.ne_of_lt (blk_lt (g := gb283) (o := .cells #[.int .i64 t285, .int .i64 t286, .string t287] 27 (0, 0)) BK283.out) : gb283 ≠ gb297))
           have n7_ := Aside0.mk ((by rw [hg]; exact Nat.ne_of_gt (blk_lt (g := gb283) (o := .cells #[.int .i64 t285, .int .i64 t286, .string t287] 27 (0, 0)) BK283.out) : gb297 ≠ gb283))
           have n8_ := Aside0.mk ((by rw [hg]; exact Nat.ne_of_lt (blk_lt (g := gb284) (o := .cells #[.int .i64 t288, .int .i64 t289, .string t290] 27 (0, 0)) BK284.out) : gb284 ≠ gb297))
           have n9_ := Aside0.mk ((by rw [hg]; exact Nat.ne_of_gt (blk_lt (g := gb284) (o := .cells #[.int .i64 t288, .int .i64 t289, .string t290] 27 (0, 0)) BK284.out) : gb297 ≠ gb284))
           clear BK283
           clear BK284
           clear HB
           have BK283 := n0_
           have BK284 := n1_
           have HB := n2_
           have BK297 := n3_
           have GW297 := n4_
           have GE297 := n5_
           have NB283_297 := n6_
           have NB297_283 := n7_
           have NB284_297 := n8_
           have NB297_284 := n9_
           clear n0_ n1_ n2_ n3_ n4_ n5_ n6_ n7_ n8_ n9_
           clear hb hbox hg
           refine hK.out _ _ ⟨(blk_cell BK283.out 0).trans rfl, (blk_cell BK283.out 1).trans rfl, (blk_cell BK283.out 2).trans rfl, (blk_cell BK284.out 0).trans rfl, (blk_cell BK284.out 1).trans rfl, (blk_cell BK284.out 2).trans rfl⟩ (fun hHeld => ?_)
           clear hK K
           refine norm_ (a' := ?_) ?_ ?_
           rotate_left
           ·show Act.put _ (some 5) _ = _
            simp only [Act.put, setA, setZ, setS, i64_w, i32_w]
            rfl
           exact norm_ (by first | (simp only [putAll, Act.put, List.setIfInBounds_toArray, List.set_cons_zero, List.set_cons_succ]; done) | (simp only [putAll, Act.put, List.setIfInBounds_toArray, List.set_cons_zero, List.set_cons_succ]; rfl)) (hJ1_4 (gb297) _ ⟨hHeld, BK283.out, BK284.out, BK297.out, GW297.out, GE297.out, NB283_297.out, NB297_283.out, NB284_297.out, NB297_284.out, HB.out⟩)
          ·skip
           refine box_step ?hg (N := 6) ?hd (cs := #[.int .i64 0, .int .i64 0, .string (⟨#[]⟩ : ByteArray)]) (t := 38) ?hr ?_; (case hd => rfl); (case hg => rfl); (case hr => first | (go_simp; done) | (go_simp; rfl))
           intro gb298 hg w23 hbox hb
           have n0_ := Aside0.mk (blk_below BK283.out hb)
           have n1_ := Aside0.mk (blk_below BK284.out hb)
           have n2_ := Aside0.mk (below_step HB.out hb)
           have n3_ := Aside0.mk (hbox)
           have n4_ := Aside0.mk ((by rw [hg]; exact (below_size HB.out) : w.heap.size ≤ gb298))
           have n5_ := Aside0.mk ((by rw [hg]; exact (below_size HB.out) : w.heap.size ≤ gb298))
           have n6_ := Aside0.mk ((by rw [hg]; exact Nat.ne_of_lt (blk_lt (g := gb283) (o := .cells #[.int .i64 t285, .int .i64 t286, .string t287] 27 (0, 0)) BK283.out) : gb283 ≠ gb298))
           have n7_ := Aside0.mk ((by rw [hg]; exact Nat.ne_of_gt (blk_lt (g := gb283) (o := .cells #[.int .i64 t285, .int .i64 t286, .string t287] 27 (0, 0)) BK283.out) : gb298 ≠ gb283))
           have n8_ := Aside0.mk ((by rw [hg]; exact Nat.ne_of_lt (blk_lt (g := gb284) (o := .cells #[.int .i64 t288, .int .i64 t289, .string t290] 27 (0, 0)) BK284.out) : gb284 ≠ gb298))
           have n9_ := Aside0.mk ((by rw [hg]; exact Nat.ne_of_gt (blk_lt (g := gb284) (o := .cells #[.int .i64 t288, .int .i64 t289, .string t290] 27 (0, 0)) BK284.out) : gb298 ≠ gb284))
           clear BK283
           clear BK284
           clear HB
           have BK283 := n0_
           have BK284 := n1_
           have HB := n2_
           have BK298 := n3_
           have GW298 := n4_
           have GE298 := n5_
           have NB283_298 := n6_
           have NB298_283 := n7_
           have NB284_298 := n8_
           have NB298_284 := n9_
           clear n0_ n1_ n2_ n3_ n4_ n5_ n6_ n7_ n8_ n9_
           clear hb hbox hg
           refine hK.out _ _ ⟨(blk_cell BK283.out 0).trans rfl, (blk_cell BK283.out 1).trans rfl, (blk_cell BK283.out 2).trans rfl, (blk_cell BK284.out 0).trans rfl, (blk_cell BK284.out 1).trans rfl, (blk_cell BK284.out 2).trans rfl⟩ (fun hHeld => ?_)
           clear hK K
           refine norm_ (a' := ?_) ?_ ?_
           rotate_left
           ·show Act.put _ (some 6) _ = _
            simp only [Act.put, setA, setZ, setS, i64_w, i32_w]
            rfl
           exact norm_ (by first | (simp only [putAll, Act.put, List.setIfInBounds_toArray, List.set_cons_zero, List.set_cons_succ]; done) | (simp only [putAll, Act.put, List.setIfInBounds_toArray, List.set_cons_zero, List.set_cons_succ]; rfl)) (hJ1_5 (gb298) _ ⟨hHeld, BK283.out, BK284.out, BK298.out, GW298.out, GE298.out, NB283_298.out, NB298_283.out, NB284_298.out, NB298_284.out, HB.out⟩)
        ·skip
         rintro ⟨gb297, gb298⟩ w23 ⟨hS_, h0_, h1_, h2_, h3_, h4_, h5_, h6_, h7_, h8_, h9_, h10_, h11_, h12_, h13_, h14_, h15_, h16_, h17_, h18_⟩
         have n0_ : Aside0 (w23.heap[gb283]? = some (.cells #[.int .i64 t285, .int .i64 t286, .string t287] 27 (0, 0))) := ⟨h0_⟩
         have n1_ : Aside0 (w23.heap[gb284]? = some (.cells #[.int .i64 t288, .int .i64 t289, .string t290] 27 (0, 0))) := ⟨h1_⟩
         have n2_ : Aside0 (w23.heap[gb297]? = some (.cells #[.int .i64 0, .int .i64 0, .string (⟨#[]⟩ : ByteArray)] 38 (0, 0))) := ⟨h2_⟩
         have n3_ : Aside0 (w23.heap[gb298]? = some (.cells #[.int .i64 0, .int .i64 0, .string (⟨#[]⟩ : ByteArray)] 38 (0, 0))) := ⟨h3_⟩
         have n4_ : Aside0 (w.heap.size ≤ gb297) := ⟨h4_⟩
         have n5_ : Aside0 (w.heap.size ≤ gb297) := ⟨h5_⟩
         have n6_ : Aside0 (gb283 ≠ gb297) := ⟨h6_⟩
         have n7_ : Aside0 (gb297 ≠ gb283) := ⟨h7_⟩
         have n8_ : Aside0 (gb284 ≠ gb297) := ⟨h8_⟩
         have n9_ : Aside0 (gb297 ≠ gb284) := ⟨h9_⟩
         have n10_ : Aside0 (gb298 ≠ gb297) := ⟨h10_⟩
         have n11_ : Aside0 (gb297 ≠ gb298) := ⟨h11_⟩
         have n12_ : Aside0 (w.heap.size ≤ gb298) := ⟨h12_⟩
         have n13_ : Aside0 (w.heap.size ≤ gb298) := ⟨h13_⟩
         have n14_ : Aside0 (gb283 ≠ gb298) := ⟨h14_⟩
         have n15_ : Aside0 (gb298 ≠ gb283) := ⟨h15_⟩
         have n16_ : Aside0 (gb284 ≠ gb298) := ⟨h16_⟩
         have n17_ : Aside0 (gb298 ≠ gb284) := ⟨h17_⟩
         have n18_ : Aside0 (Below w.heap.size w w23) := ⟨h18_⟩
         clear BK283
         clear BK284
         clear HB
         clear h0_ h1_ h2_ h3_ h4_ h5_ h6_ h7_ h8_ h9_ h10_ h11_ h12_ h13_ h14_ h15_ h16_ h17_ h18_
         have BK283 := n0_
         have BK284 := n1_
         have BK297 := n2_
         have BK298 := n3_
         have GW297 := n4_
         have GE297 := n5_
         have NB283_297 := n6_
         have NB297_283 := n7_
         have NB284_297 := n8_
         have NB297_284 := n9_
         have NB298_297 := n10_
         have NB297_298 := n11_
         have GW298 := n12_
         have GE298 := n13_
         have NB283_298 := n14_
         have NB298_283 := n15_
         have NB284_298 := n16_
         have NB298_284 := n17_
         have HB := n18_
         clear n0_ n1_ n2_ n3_ n4_ n5_ n6_ n7_ n8_ n9_ n10_ n11_ n12_ n13_ n14_ n15_ n16_ n17_ n18_
         have hHeld : w23.cell? ⟨gb283, 0, none⟩ = some (.int .i64 t285) ∧ w23.cell? ⟨gb283, 1, none⟩ = some (.int .i64 t286) ∧ w23.cell? ⟨gb283, 2, none⟩ = some (.string t287) ∧ w23.cell? ⟨gb284, 0, none⟩ = some (.int .i64 t288) ∧ w23.cell? ⟨gb284, 1, none⟩ = some (.int .i64 t289) ∧ w23.cell? ⟨gb284, 2, none⟩ = some (.string t290) := hS_
         refine norm_ (a' := ?_) ?_ ?_
         rotate_left
         ·simp only [putAll, Act.put, List.setIfInBounds_toArray, List.set_cons_zero, List.set_cons_succ]
          rfl
         refine one_ (i := 1) (N := some 12) #[tt,tt,tt,ff,tt,tt,ff,ff] rfl rfl (one_of HT_.out (by kernel_rfl)) (by decide) (fun K hK => ?_)
         refine goes_ Tryd.func21 (by kernel_rfl) rfl #[.agg #[.int .i64 t285, .int .i64 t286, .string t287]] (by rfl) rfl rfl (by (try simp only [List.map_toArray, List.map_cons, List.map_nil]); first | done | rfl | (simp only [List.length_drop, List.length_take]; rfl)) ?_
         with_reducible refine (scribelaw06_Told.calls t285 t286 t287 t291 t292 t293 _ ?side1 A5.out).mono ?_
         (case side1 => exact TB.below hT HB.out)
         rintro e w24 ⟨rfl, hb⟩
         refine ⟨_, rfl, ?_⟩
         have n0_ := Aside0.mk (blk_below BK283.out hb)
         have n1_ := Aside0.mk (blk_below BK284.out hb)
         have n2_ := Aside0.mk (blk_below BK297.out hb)
         have n3_ := Aside0.mk (blk_below BK298.out hb)
         have n4_ := Aside0.mk (below_step HB.out hb)
         clear BK283
         clear BK284
         clear BK297
         clear BK298
         clear HB
         have BK283 := n0_
         have BK284 := n1_
         have BK297 := n2_
         have BK298 := n3_
         have HB := n4_
         clear n0_ n1_ n2_ n3_ n4_
         (try clear hb)
         (try clear hb2)
         (try clear hk)
         (try clear hi)
         refine hK.out _ _ ⟨(blk_cell BK283.out 0).trans rfl, (blk_cell BK283.out 1).trans rfl, (blk_cell BK283.out 2).trans rfl, (blk_cell BK284.out 0).trans rfl, (blk_cell BK284.out 1).trans rfl, (blk_cell BK284.out 2).trans rfl⟩ (fun hHeld => ?_)
         clear hK K
         refine norm_ (a' := ?_) ?_ ?_
         rotate_left
         ·show Act.put _ (some 12) _ = _
          simp only [Act.put, setA, setZ, setS, i64_w, i32_w]
          rfl
         exact norm_ (by first | (simp only [putAll, Act.put, List.setIfInBounds_toArray, List.set_cons_zero, List.set_cons_succ]; done) | (simp only [putAll, Act.put, List.setIfInBounds_toArray, List.set_cons_zero, List.set_cons_succ]; rfl)) (hJ1_4_5 (gb297, gb298) _ ⟨hHeld, BK283.out, BK284.out, BK297.out, BK298.out, GW297.out, GE297.out, NB283_297.out, NB297_283.out, NB284_297.out, NB297_284.out, NB298_297.out, NB297_298.out, GW298.out, GE298.out, NB283_298.out, NB298_283.out, NB284_298.out, NB298_284.out, HB.out⟩)
       ·skip
        rintro gb298 w23 ⟨hS_, h0_, h1_, h2_, h3_, h4_, h5_, h6_, h7_, h8_, h9_⟩
        have n0_ : Aside0 (w23.heap[gb283]? = some (.cells #[.int .i64 t285, .int .i64 t286, .string t287] 27 (0, 0))) := ⟨h0_⟩
        have n1_ : Aside0 (w23.heap[gb284]? = some (.cells #[.int .i64 t288, .int .i64 t289, .string t290] 27 (0, 0))) := ⟨h1_⟩
        have n2_ : Aside0 (w23.heap[gb298]? = some (.cells #[.int .i64 0, .int .i64 0, .string (⟨#[]⟩ : ByteArray)] 38 (0, 0))) := ⟨h2_⟩
        have n3_ : Aside0 (w.heap.size ≤ gb298) := ⟨h3_⟩
        have n4_ : Aside0 (w.heap.size ≤ gb298) := ⟨h4_⟩
        have n5_ : Aside0 (gb283 ≠ gb298) := ⟨h5_⟩
        have n6_ : Aside0 (gb298 ≠ gb283) := ⟨h6_⟩
        have n7_ : Aside0 (gb284 ≠ gb298) := ⟨h7_⟩
        have n8_ : Aside0 (gb298 ≠ gb284) := ⟨h8_⟩
        have n9_ : Aside0 (Below w.heap.size w w23) := ⟨h9_⟩
        clear BK283
        clear BK284
        clear HB
        clear h0_ h1_ h2_ h3_ h4_ h5_ h6_ h7_ h8_ h9_
        have BK283 := n0_
        have BK284 := n1_
        have BK298 := n2_
        have GW298 := n3_
        have GE298 := n4_
        have NB283_298 := n5_
        have NB298_283 := n6_
        have NB284_298 := n7_
        have NB298_284 := n8_
        have HB := n9_
        clear n0_ n1_ n2_ n3_ n4_ n5_ n6_ n7_ n8_ n9_
        have hHeld : w23.cell? ⟨gb283, 0, none⟩ = some (.int .i64 t285) ∧ w23.cell? ⟨gb283, 1, none⟩ = some (.int .i64 t286) ∧ w23.cell? ⟨gb283, 2, none⟩ = some (.string t287) ∧ w23.cell? ⟨gb284, 0, none⟩ = some (.int .i64 t288) ∧ w23.cell? ⟨gb284, 1, none⟩ = some (.int .i64 t289) ∧ w23.cell? ⟨gb284, 2, none⟩ = some (.string t290) := hS_
        refine norm_ (a' := ?_) ?_ ?_
        rotate_left
        ·simp only [putAll, Act.put, List.setIfInBounds_toArray, List.set_cons_zero, List.set_cons_succ]
         rfl
        refine two_ (i := 3) (j := 4) (Ni := some 14) (Nj := some 5) #[tt,tt,tt,tt,ff,tt,ff,ff] #[tt,tt,tt,ff,tt,tt,ff,ff] rfl rfl rfl rfl (two_of HT_.out (by kernel_rfl)) (by decide) (by decide) (fun K hK => ?_) (fun K hK => ?_)
        ·skip
         refine goes_ Tryd.func21 (by kernel_rfl) rfl #[.agg #[.int .i64 t288, .int .i64 t289, .string t290]] (by rfl) rfl rfl (by (try simp only [List.map_toArray, List.map_cons, List.map_nil]); first | done | rfl | (simp only [List.length_drop, List.length_take]; rfl)) ?_
         with_reducible refine (scribelaw06_Told.calls t288 t289 t290 t294 t295 t296 _ ?side1 A6.out).mono ?_
         (case side1 => exact TB.below hT HB.out)
         rintro e w24 ⟨rfl, hb⟩
         refine ⟨_, rfl, ?_⟩
         have n0_ := Aside0.mk (blk_below BK283.out hb)
         have n1_ := Aside0.mk (blk_below BK284.out hb)
         have n2_ := Aside0.mk (blk_below BK298.out hb)
         have n3_ := Aside0.mk (below_step HB.out hb)
         clear BK283
         clear BK284
         clear BK298
         clear HB
         have BK283 := n0_
         have BK284 := n1_
         have BK298 := n2_
         have HB := n3_
         clear n0_ n1_ n2_ n3_
         (try clear hb)
         (try clear hb2)
         (try clear hk)
         (try clear hi)
         refine hK.out _ _ ⟨(blk_cell BK283.out 0).trans rfl, (blk_cell BK283.out 1).trans rfl, (blk_cell BK283.out 2).trans rfl, (blk_cell BK284.out 0).trans rfl, (blk_cell BK284.out 1).trans rfl, (blk_cell BK284.out 2).trans rfl⟩ (fun hHeld => ?_)
         clear hK K
         refine norm_ (a' := ?_) ?_ ?_
         rotate_left
         ·show Act.put _ (some 14) _ = _
          simp only [Act.put, setA, setZ, setS, i64_w, i32_w]
          rfl
         exact norm_ (by first | (simp only [putAll, Act.put, List.setIfInBounds_toArray, List.set_cons_zero, List.set_cons_succ]; done) | (simp only [putAll, Act.put, List.setIfInBounds_toArray, List.set_cons_zero, List.set_cons_succ]; rfl)) (hJ1_3_5 (gb298) _ ⟨hHeld, BK283.out, BK284.out, BK298.out, GW298.out, GE298.out, NB283_298.out, NB298_283.out, NB284_298.out, NB298_284.out, HB.out⟩)
        ·skip
         refine box_step ?hg (N := 5) ?hd (cs := #[.int .i64 0, .int .i64 0, .string (⟨#[]⟩ : ByteArray)]) (t := 38) ?hr ?_; (case hd => rfl); (case hg => rfl); (case hr => first | (go_simp; done) | (go_simp; rfl))
         intro gb297 hg w24 hbox hb
         have n0_ := Aside0.mk (blk_below BK283.out hb)
         have n1_ := Aside0.mk (blk_below BK284.out hb)
         have n2_ := Aside0.mk (blk_below BK298.out hb)
         have n3_ := Aside0.mk (below_step HB.out hb)
         have n4_ := Aside0.mk (hbox)
         have n5_ := Aside0.mk ((by rw [hg]; exact (below_size HB.out) : w.heap.size ≤ gb297))
         have n6_ := Aside0.mk ((by rw [hg]; exact (below_size HB.out) : w.heap.size ≤ gb297))
         have n7_ := Aside0.mk ((by rw [hg]; exact Nat.ne_of_lt (blk_lt (g := gb283) (o := .cells #[.int .i64 t285, .int .i64 t286, .string t287] 27 (0, 0)) BK283.out) : gb283 ≠ gb297))
         have n8_ := Aside0.mk ((by rw [hg]; exact Nat.ne_of_gt (blk_lt (g := gb283) (o := .cells #[.int .i64 t285, .int .i64 t286, .string t287] 27 (0, 0)) BK283.out) : gb297 ≠ gb283))
         have n9_ := Aside0.mk ((by rw [hg]; exact Nat.ne_of_lt (blk_lt (g := gb284) (o := .cells #[.int .i64 t288, .int .i64 t289, .string t290] 27 (0, 0)) BK284.out) : gb284 ≠ gb297))
         have n10_ := Aside0.mk ((by rw [hg]; exact Nat.ne_of_gt (blk_lt (g := gb284) (o := .cells #[.int .i64 t288, .int .i64 t289, .string t290] 27 (0, 0)) BK284.out) : gb297 ≠ gb284))
         have n11_ := Aside0.mk ((by rw [hg]; exact Nat.ne_of_lt (blk_lt (g := gb298) (o := .cells #[.int .i64 0, .int .i64 0, .string (⟨#[]⟩ : ByteArray)] 38 (0, 0)) BK298.out) : gb298 ≠ gb297))
         have n12_ := Aside0.mk ((by rw [hg]; exact Nat.ne_of_gt (blk_lt (g := gb298) (o := .cells #[.int .i64 0, .int .i64 0, .string (⟨#[]⟩ : ByteArray)] 38 (0, 0)) BK298.out) : gb297 ≠ gb298))
         clear BK283
         clear BK284
         clear BK298
         clear HB
         have BK283 := n0_
         have BK284 := n1_
         have BK298 := n2_
         have HB := n3_
         have BK297 := n4_
         have GW297 := n5_
         have GE297 := n6_
         have NB283_297 := n7_
         have NB297_283 := n8_
         have NB284_297 := n9_
         have NB297_284 := n10_
         have NB298_297 := n11_
         have NB297_298 := n12_
         clear n0_ n1_ n2_ n3_ n4_ n5_ n6_ n7_ n8_ n9_ n10_ n11_ n12_
         clear hb hbox hg
         refine hK.out _ _ ⟨(blk_cell BK283.out 0).trans rfl, (blk_cell BK283.out 1).trans rfl, (blk_cell BK283.out 2).trans rfl, (blk_cell BK284.out 0).trans rfl, (blk_cell BK284.out 1).trans rfl, (blk_cell BK284.out 2).trans rfl⟩ (fun hHeld => ?_)
         clear hK K
         refine norm_ (a' := ?_) ?_ ?_
         rotate_left
         ·show Act.put _ (some 5) _ = _
          simp only [Act.put, setA, setZ, setS, i64_w, i32_w]
          rfl
         exact norm_ (by first | (simp only [putAll, Act.put, List.setIfInBounds_toArray, List.set_cons_zero, List.set_cons_succ]; done) | (simp only [putAll, Act.put, List.setIfInBounds_toArray, List.set_cons_zero, List.set_cons_succ]; rfl)) (hJ1_4_5 (gb297, gb298) _ ⟨hHeld, BK283.out, BK284.out, BK297.out, BK298.out, GW297.out, GE297.out, NB283_297.out, NB297_283.out, NB284_297.out, NB297_284.out, NB298_297.out, NB297_298.out, GW298.out, GE298.out, NB283_298.out, NB298_283.out, NB284_298.out, NB298_284.out, HB.out⟩)
      ·skip
       rintro gb297 w23 ⟨hS_, h0_, h1_, h2_, h3_, h4_, h5_, h6_, h7_, h8_, h9_⟩
       have n0_ : Aside0 (w23.heap[gb283]? = some (.cells #[.int .i64 t285, .int .i64 t286, .string t287] 27 (0, 0))) := ⟨h0_⟩
       have n1_ : Aside0 (w23.heap[gb284]? = some (.cells #[.int .i64 t288, .int .i64 t289, .string t290] 27 (0, 0))) := ⟨h1_⟩
       have n2_ : Aside0 (w23.heap[gb297]? = some (.cells #[.int .i64 0, .int .i64 0, .string (⟨#[]⟩ : ByteArray)] 38 (0, 0))) := ⟨h2_⟩
       have n3_ : Aside0 (w.heap.size ≤ gb297) := ⟨h3_⟩
       have n4_ : Aside0 (w.heap.size ≤ gb297) := ⟨h4_⟩
       have n5_ : Aside0 (gb283 ≠ gb297) := ⟨h5_⟩
       have n6_ : Aside0 (gb297 ≠ gb283) := ⟨h6_⟩
       have n7_ : Aside0 (gb284 ≠ gb297) := ⟨h7_⟩
       have n8_ : Aside0 (gb297 ≠ gb284) := ⟨h8_⟩
       have n9_ : Aside0 (Below w.heap.size w w23) := ⟨h9_⟩
       clear BK283
       clear BK284
       clear HB
       clear h0_ h1_ h2_ h3_ h4_ h5_ h6_ h7_ h8_ h9_
       have BK283 := n0_
       have BK284 := n1_
       have BK297 := n2_
       have GW297 := n3_
       have GE297 := n4_
       have NB283_297 := n5_
       have NB297_283 := n6_
       have NB284_297 := n7_
       have NB297_284 := n8_
       have HB := n9_
       clear n0_ n1_ n2_ n3_ n4_ n5_ n6_ n7_ n8_ n9_
       have hHeld : w23.cell? ⟨gb283, 0, none⟩ = some (.int .i64 t285) ∧ w23.cell? ⟨gb283, 1, none⟩ = some (.int .i64 t286) ∧ w23.cell? ⟨gb283, 2, none⟩ = some (.string t287) ∧ w23.cell? ⟨gb284, 0, none⟩ = some (.int .i64 t288) ∧ w23.cell? ⟨gb284, 1, none⟩ = some (.int .i64 t289) ∧ w23.cell? ⟨gb284, 2, none⟩ = some (.string t290) := hS_
       refine norm_ (a' := ?_) ?_ ?_
       rotate_left
       ·simp only [putAll, Act.put, List.setIfInBounds_toArray, List.set_cons_zero, List.set_cons_succ]
        rfl
       refine two_ (i := 3) (j := 5) (Ni := some 14) (Nj := some 6) #[tt,tt,tt,tt,tt,ff,ff,ff] #[tt,tt,tt,ff,tt,tt,ff,ff] rfl rfl rfl rfl (two_of HT_.out (by kernel_rfl)) (by decide) (by decide) (fun K hK => ?_) (fun K hK => ?_)
       ·skip
        refine goes_ Tryd.func21 (by kernel_rfl) rfl #[.agg #[.int .i64 t288, .int .i64 t289, .string t290]] (by rfl) rfl rfl (by (try simp only [List.map_toArray, List.map_cons, List.map_nil]); first | done | rfl | (simp only [List.length_drop, List.length_take]; rfl)) ?_
        with_reducible refine (scribelaw06_Told.calls t288 t289 t290 t294 t295 t296 _ ?side1 A6.out).mono ?_
        (case side1 => exact TB.below hT HB.out)
        rintro e w24 ⟨rfl, hb⟩
        refine ⟨_, rfl, ?_⟩
        have n0_ := Aside0.mk (blk_below BK283.out hb)
        have n1_ := Aside0.mk (blk_below BK284.out hb)
        have n2_ := Aside0.mk (blk_below BK297.out hb)
        have n3_ := Aside0.mk (below_step HB.out hb)
        clear BK283
        clear BK284
        clear BK297
        clear HB
        have BK283 := n0_
        have BK284 := n1_
        have BK297 := n2_
        have HB := n3_
        clear n0_ n1_ n2_ n3_
        (try clear hb)
        (try clear hb2)
        (try clear hk)
        (try clear hi)
        refine hK.out _ _ ⟨(blk_cell BK283.out 0).trans rfl, (blk_cell BK283.out 1).trans rfl, (blk_cell BK283.out 2).trans rfl, (blk_cell BK284.out 0).trans rfl, (blk_cell BK284.out 1).trans rfl, (blk_cell BK284.out 2).trans rfl⟩ (fun hHeld => ?_)
        clear hK K
        refine norm_ (a' := ?_) ?_ ?_
        rotate_left
        ·show Act.put _ (some 14) _ = _
         simp only [Act.put, setA, setZ, setS, i64_w, i32_w]
         rfl
        exact norm_ (by first | (simp only [putAll, Act.put, List.setIfInBounds_toArray, List.set_cons_zero, List.set_cons_succ]; done) | (simp only [putAll, Act.put, List.setIfInBounds_toArray, List.set_cons_zero, List.set_cons_succ]; rfl)) (hJ1_3_4 (gb297) _ ⟨hHeld, BK283.out, BK284.out, BK297.out, GW297.out, GE297.out, NB283_297.out, NB297_283.out, NB284_297.out, NB297_284.out, HB.out⟩)
       ·skip
        refine box_step ?hg (N := 6) ?hd (cs := #[.int .i64 0, .int .i64 0, .string (⟨#[]⟩ : ByteArray)]) (t := 38) ?hr ?_; (case hd => rfl); (case hg => rfl); (case hr => first | (go_simp; done) | (go_simp; rfl))
        intro gb298 hg w24 hbox hb
        have n0_ := Aside0.mk (blk_below BK283.out hb)
        have n1_ := Aside0.mk (blk_below BK284.out hb)
        have n2_ := Aside0.mk (blk_below BK297.out hb)
        have n3_ := Aside0.mk (below_step HB.out hb)
        have n4_ := Aside0.mk (hbox)
        have n5_ := Aside0.mk ((by rw [hg]; exact (below_size HB.out) : w.heap.size ≤ gb298))
        have n6_ := Aside0.mk ((by rw [hg]; exact (below_size HB.out) : w.heap.size ≤ gb298))
        have n7_ := Aside0.mk ((by rw [hg]; exact Nat.ne_of_lt (blk_lt (g := gb283) (o := .cells #[.int .i64 t285, .int .i64 t286, .string t287] 27 (0, 0)) BK283.out) : gb283 ≠ gb298))
        have n8_ := Aside0.mk ((by rw [hg]; exact Nat.ne_of_gt (blk_lt (g := gb283) (o := .cells #[.int .i64 t285, .int .i64 t286, .string t287] 27 (0, 0)) BK283.out) : gb298 ≠ gb283))
        have n9_ := Aside0.mk ((by rw [hg]; exact Nat.ne_of_lt (blk_lt (g := gb284) (o := .cells #[.int .i64 t288, .int .i64 t289, .string t290] 27 (0, 0)) BK284.out) : gb284 ≠ gb298))
        have n10_ := Aside0.mk ((by rw [hg]; exact Nat.ne_of_gt (blk_lt (g := gb284) (o := .cells #[.int .i64 t288, .int .i64 t289, .string t290] 27 (0, 0)) BK284.out) : gb298 ≠ gb284))
        have n11_ := Aside0.mk ((by rw [hg]; exact Nat.ne_of_lt (blk_lt (g := gb297) (o := .cells #[.int .i64 0, .int .i64 0, .string (⟨#[]⟩ : ByteArray)] 38 (0, 0)) BK297.out) : gb297 ≠ gb298))
        have n12_ := Aside0.mk ((by rw [hg]; exact Nat.ne_of_gt (blk_lt (g := gb297) (o := .cells #[.int .i64 0, .int .i64 0, .string (⟨#[]⟩ : ByteArray)] 38 (0, 0)) BK297.out) : gb298 ≠ gb297))
        clear BK283
        clear BK284
        clear BK297
        clear HB
        have BK283 := n0_
        have BK284 := n1_
        have BK297 := n2_
        have HB := n3_
        have BK298 := n4_
        have GW298 := n5_
        have GE298 := n6_
        have NB283_298 := n7_
        have NB298_283 := n8_
        have NB284_298 := n9_
        have NB298_284 := n10_
        have NB297_298 := n11_
        have NB298_297 := n12_
        clear n0_ n1_ n2_ n3_ n4_ n5_ n6_ n7_ n8_ n9_ n10_ n11_ n12_
        clear hb hbox hg
        refine hK.out _ _ ⟨(blk_cell BK283.out 0).trans rfl, (blk_cell BK283.out 1).trans rfl, (blk_cell BK283.out 2).trans rfl, (blk_cell BK284.out 0).trans rfl, (blk_cell BK284.out 1).trans rfl, (blk_cell BK284.out 2).trans rfl⟩ (fun hHeld => ?_)
        clear hK K
        refine norm_ (a' := ?_) ?_ ?_
        rotate_left
        ·show Act.put _ (some 6) _ = _
         simp only [Act.put, setA, setZ, setS, i64_w, i32_w]
         rfl
        exact norm_ (by first | (simp only [putAll, Act.put, List.setIfInBounds_toArray, List.set_cons_zero, List.set_cons_succ]; done) | (simp only [putAll, Act.put, List.setIfInBounds_toArray, List.set_cons_zero, List.set_cons_succ]; rfl)) (hJ1_4_5 (gb297, gb298) _ ⟨hHeld, BK283.out, BK284.out, BK297.out, BK298.out, GW297.out, GE297.out, NB283_297.out, NB297_283.out, NB284_297.out, NB297_284.out, NB298_297.out, NB297_298.out, GW298.out, GE298.out, NB283_298.out, NB298_283.out, NB284_298.out, NB298_284.out, HB.out⟩)
     ·skip
      rintro _ w23 ⟨hS_, h0_, h1_, h2_⟩
      have n0_ : Aside0 (w23.heap[gb283]? = some (.cells #[.int .i64 t285, .int .i64 t286, .string t287] 27 (0, 0))) := ⟨h0_⟩
      have n1_ : Aside0 (w23.heap[gb284]? = some (.cells #[.int .i64 t288, .int .i64 t289, .string t290] 27 (0, 0))) := ⟨h1_⟩
      have n2_ : Aside0 (Below w.heap.size w w23) := ⟨h2_⟩
      clear BK283
      clear BK284
      clear HB
      clear h0_ h1_ h2_
      have BK283 := n0_
      have BK284 := n1_
      have HB := n2_
      clear n0_ n1_ n2_
      have hHeld : w23.cell? ⟨gb283, 0, none⟩ = some (.int .i64 t285) ∧ w23.cell? ⟨gb283, 1, none⟩ = some (.int .i64 t286) ∧ w23.cell? ⟨gb283, 2, none⟩ = some (.string t287) ∧ w23.cell? ⟨gb284, 0, none⟩ = some (.int .i64 t288) ∧ w23.cell? ⟨gb284, 1, none⟩ = some (.int .i64 t289) ∧ w23.cell? ⟨gb284, 2, none⟩ = some (.string t290) := hS_
      refine norm_ (a' := ?_) ?_ ?_
      rotate_left
      ·simp only [putAll, Act.put, List.setIfInBounds_toArray, List.set_cons_zero, List.set_cons_succ]
       rfl
      refine two_ (i := 4) (j := 5) (Ni := some 5) (Nj := some 6) #[tt,tt,tt,tt,tt,ff,ff,ff] #[tt,tt,tt,tt,ff,tt,ff,ff] rfl rfl rfl rfl (two_of HT_.out (by kernel_rfl)) (by decide) (by decide) (fun K hK => ?_) (fun K hK => ?_)
      ·skip
       refine box_step ?hg (N := 5) ?hd (cs := #[.int .i64 0, .int .i64 0, .string (⟨#[]⟩ : ByteArray)]) (t := 38) ?hr ?_; (case hd => rfl); (case hg => rfl); (case hr => first | (go_simp; done) | (go_simp; rfl))
       intro gb297 hg w24 hbox hb
       have n0_ := Aside0.mk (blk_below BK283.out hb)
       have n1_ := Aside0.mk (blk_below BK284.out hb)
       have n2_ := Aside0.mk (below_step HB.out hb)
       have n3_ := Aside0.mk (hbox)
       have n4_ := Aside0.mk ((by rw [hg]; exact (below_size HB.out) : w.heap.size ≤ gb297))
       have n5_ := Aside0.mk ((by rw [hg]; exact (below_size HB.out) : w.heap.size ≤ gb297))
       have n6_ := Aside0.mk ((by rw [hg]; exact Nat.ne_of_lt (blk_lt (g := gb283) (o := .cells #[.int .i64 t285, .int .i64 t286, .string t287] 27 (0, 0)) BK283.out) : gb283 ≠ gb297))
       have n7_ := Aside0.mk ((by rw [hg]; exact Nat.ne_of_gt (blk_lt (g := gb283) (o := .cells #[.int .i64 t285, .int .i64 t286, .string t287] 27 (0, 0)) BK283.out) : gb297 ≠ gb283))
       have n8_ := Aside0.mk ((by rw [hg]; exact Nat.ne_of_lt (blk_lt (g := gb284) (o := .cells #[.int .i64 t288, .int .i64 t289, .string t290] 27 (0, 0)) BK284.out) : gb284 ≠ gb297))
       have n9_ := Aside0.mk ((by rw [hg]; exact Nat.ne_of_gt (blk_lt (g := gb284) (o := .cells #[.int .i64 t288, .int .i64 t289, .string t290] 27 (0, 0)) BK284.out) : gb297 ≠ gb284))
       clear BK283
       clear BK284
       clear HB
       have BK283 := n0_
       have BK284 := n1_
       have HB := n2_
       have BK297 := n3_
       have GW297 := n4_
       have GE297 := n5_
       have NB283_297 := n6_
       have NB297_283 := n7_
       have NB284_297 := n8_
       have NB297_284 := n9_
       clear n0_ n1_ n2_ n3_ n4_ n5_ n6_ n7_ n8_ n9_
       clear hb hbox hg
       refine hK.out _ _ ⟨(blk_cell BK283.out 0).trans rfl, (blk_cell BK283.out 1).trans rfl, (blk_cell BK283.out 2).trans rfl, (blk_cell BK284.out 0).trans rfl, (blk_cell BK284.out 1).trans rfl, (blk_cell BK284.out 2).trans rfl⟩ (fun hHeld => ?_)
       clear hK K
       refine norm_ (a' := ?_) ?_ ?_
       rotate_left
       ·show Act.put _ (some 5) _ = _
        simp only [Act.put, setA, setZ, setS, i64_w, i32_w]
        rfl
       exact norm_ (by first | (simp only [putAll, Act.put, List.setIfInBounds_toArray, List.set_cons_zero, List.set_cons_succ]; done) | (simp only [putAll, Act.put, List.setIfInBounds_toArray, List.set_cons_zero, List.set_cons_succ]; rfl)) (hJ1_3_4 (gb297) _ ⟨hHeld, BK283.out, BK284.out, BK297.out, GW297.out, GE297.out, NB283_297.out, NB297_283.out, NB284_297.out, NB297_284.out, HB.out⟩)
      ·skip
       refine box_step ?hg (N := 6) ?hd (cs := #[.int .i64 0, .int .i64 0, .string (⟨#[]⟩ : ByteArray)]) (t := 38) ?hr ?_; (case hd => rfl); (case hg => rfl); (case hr => first | (go_simp; done) | (go_simp; rfl))
       intro gb298 hg w24 hbox hb
       have n0_ := Aside0.mk (blk_below BK283.out hb)
       have n1_ := Aside0.mk (blk_below BK284.out hb)
       have n2_ := Aside0.mk (below_step HB.out hb)
       have n3_ := Aside0.mk (hbox)
       have n4_ := Aside0.mk ((by rw [hg]; exact (below_size HB.out) : w.heap.size ≤ gb298))
       have n5_ := Aside0.mk ((by rw [hg]; exact (below_size HB.out) : w.heap.size ≤ gb298))
       have n6_ := Aside0.mk ((by rw [hg]; exact Nat.ne_of_lt (blk_lt (g := gb283) (o := .cells #[.int .i64 t285, .int .i64 t286, .string t287] 27 (0, 0)) BK283.out) : gb283 ≠ gb298))
       have n7_ := Aside0.mk ((by rw [hg]; exact Nat.ne_of_gt (blk_lt (g := gb283) (o := .cells #[.int .i64 t285, .int .i64 t286, .string t287] 27 (0, 0)) BK283.out) : gb298 ≠ gb283))
       have n8_ := Aside0.mk ((by rw [hg]; exact Nat.ne_of_lt (blk_lt (g := gb284) (o := .cells #[.int .i64 t288, .int .i64 t289, .string t290] 27 (0, 0)) BK284.out) : gb284 ≠ gb298))
       have n9_ := Aside0.mk ((by rw [hg]; exact Nat.ne_of_gt (blk_lt (g := gb284) (o := .cells #[.int .i64 t288, .int .i64 t289, .string t290] 27 (0, 0)) BK284.out) : gb298 ≠ gb284))
       clear BK283
       clear BK284
       clear HB
       have BK283 := n0_
       have BK284 := n1_
       have HB := n2_
       have BK298 := n3_
       have GW298 := n4_
       have GE298 := n5_
       have NB283_298 := n6_
       have NB298_283 := n7_
       have NB284_298 := n8_
       have NB298_284 := n9_
       clear n0_ n1_ n2_ n3_ n4_ n5_ n6_ n7_ n8_ n9_
       clear hb hbox hg
       refine hK.out _ _ ⟨(blk_cell BK283.out 0).trans rfl, (blk_cell BK283.out 1).trans rfl, (blk_cell BK283.out 2).trans rfl, (blk_cell BK284.out 0).trans rfl, (blk_cell BK284.out 1).trans rfl, (blk_cell BK284.out 2).trans rfl⟩ (fun hHeld => ?_)
       clear hK K
       refine norm_ (a' := ?_) ?_ ?_
       rotate_left
       ·show Act.put _ (some 6) _ = _
        simp only [Act.put, setA, setZ, setS, i64_w, i32_w]
        rfl
       exact norm_ (by first | (simp only [putAll, Act.put, List.setIfInBounds_toArray, List.set_cons_zero, List.set_cons_succ]; done) | (simp only [putAll, Act.put, List.setIfInBounds_toArray, List.set_cons_zero, List.set_cons_succ]; rfl)) (hJ1_3_5 (gb298) _ ⟨hHeld, BK283.out, BK284.out, BK298.out, GW298.out, GE298.out, NB283_298.out, NB298_283.out, NB284_298.out, NB298_284.out, HB.out⟩)
    ·skip
     rintro ⟨gb297, gb298⟩ w24 ⟨hS_, h0_, h1_, h2_, h3_, h4_, h5_, h6_, h7_, h8_, h9_, h10_, h11_, h12_, h13_, h14_, h15_, h16_, h17_, h18_⟩
     have n0_ : Aside0 (w24.heap[gb283]? = some (.cells #[.int .i64 t285, .int .i64 t286, .string t287] 27 (0, 0))) := ⟨h0_⟩
     have n1_ : Aside0 (w24.heap[gb284]? = some (.cells #[.int .i64 t288, .int .i64 t289, .string t290] 27 (0, 0))) := ⟨h1_⟩
     have n2_ : Aside0 (w24.heap[gb297]? = some (.cells #[.int .i64 0, .int .i64 0, .string (⟨#[]⟩ : ByteArray)] 38 (0, 0))) := ⟨h2_⟩
     have n3_ : Aside0 (w24.heap[gb298]? = some (.cells #[.int .i64 0, .int .i64 0, .string (⟨#[]⟩ : ByteArray)] 38 (0, 0))) := ⟨h3_⟩
     have n4_ : Aside0 (w.heap.size ≤ gb297) := ⟨h4_⟩
     have n5_ : Aside0 (w.heap.size ≤ gb297) := ⟨h5_⟩
     have n6_ : Aside0 (gb283 ≠ gb297) := ⟨h6_⟩
     have n7_ : Aside0 (gb297 ≠ gb283) := ⟨h7_⟩
     have n8_ : Aside0 (gb284 ≠ gb297) := ⟨h8_⟩
     have n9_ : Aside0 (gb297 ≠ gb284) := ⟨h9_⟩
     have n10_ : Aside0 (gb298 ≠ gb297) := ⟨h10_⟩
     have n11_ : Aside0 (gb297 ≠ gb298) := ⟨h11_⟩
     have n12_ : Aside0 (w.heap.size ≤ gb298) := ⟨h12_⟩
     have n13_ : Aside0 (w.heap.size ≤ gb298) := ⟨h13_⟩
     have n14_ : Aside0 (gb283 ≠ gb298) := ⟨h14_⟩
     have n15_ : Aside0 (gb298 ≠ gb283) := ⟨h15_⟩
     have n16_ : Aside0 (gb284 ≠ gb298) := ⟨h16_⟩
     have n17_ : Aside0 (gb298 ≠ gb284) := ⟨h17_⟩
     have n18_ : Aside0 (Below w.heap.size w w24) := ⟨h18_⟩
     clear BK283
     clear BK284
     clear HB
     clear h0_ h1_ h2_ h3_ h4_ h5_ h6_ h7_ h8_ h9_ h10_ h11_ h12_ h13_ h14_ h15_ h16_ h17_ h18_
     have BK283 := n0_
     have BK284 := n1_
     have BK297 := n2_
     have BK298 := n3_
     have GW297 := n4_
     have GE297 := n5_
     have NB283_297 := n6_
     have NB297_283 := n7_
     have NB284_297 := n8_
     have NB297_284 := n9_
     have NB298_297 := n10_
     have NB297_298 := n11_
     have GW298 := n12_
     have GE298 := n13_
     have NB283_298 := n14_
     have NB298_283 := n15_
     have NB284_298 := n16_
     have NB298_284 := n17_
     have HB := n18_
     clear n0_ n1_ n2_ n3_ n4_ n5_ n6_ n7_ n8_ n9_ n10_ n11_ n12_ n13_ n14_ n15_ n16_ n17_ n18_
     have hHeld : w24.cell? ⟨gb283, 0, none⟩ = some (.int .i64 t285) ∧ w24.cell? ⟨gb283, 1, none⟩ = some (.int .i64 t286) ∧ w24.cell? ⟨gb283, 2, none⟩ = some (.string t287) ∧ w24.cell? ⟨gb284, 0, none⟩ = some (.int .i64 t288) ∧ w24.cell? ⟨gb284, 1, none⟩ = some (.int .i64 t289) ∧ w24.cell? ⟨gb284, 2, none⟩ = some (.string t290) := hS_
     refine norm_ (a' := ?_) ?_ ?_
     rotate_left
     ·simp only [putAll, Act.put, List.setIfInBounds_toArray, List.set_cons_zero, List.set_cons_succ]
      rfl
     refine one_ (i := 3) (N := some 14) #[tt,tt,tt,tt,tt,tt,ff,ff] rfl rfl (one_of HT_.out (by kernel_rfl)) (by decide) (fun K hK => ?_)
     refine goes_ Tryd.func21 (by kernel_rfl) rfl #[.agg #[.int .i64 t288, .int .i64 t289, .string t290]] (by rfl) rfl rfl (by (try simp only [List.map_toArray, List.map_cons, List.map_nil]); first | done | rfl | (simp only [List.length_drop, List.length_take]; rfl)) ?_
     with_reducible refine (scribelaw06_Told.calls t288 t289 t290 t294 t295 t296 _ ?side1 A6.out).mono ?_
     (case side1 => exact TB.below hT HB.out)
     rintro e w25 ⟨rfl, hb⟩
     refine ⟨_, rfl, ?_⟩
     have n0_ := Aside0.mk (blk_below BK283.out hb)
     have n1_ := Aside0.mk (blk_below BK284.out hb)
     have n2_ := Aside0.mk (blk_below BK297.out hb)
     have n3_ := Aside0.mk (blk_below BK298.out hb)
     have n4_ := Aside0.mk (below_step HB.out hb)
     clear BK283
     clear BK284
     clear BK297
     clear BK298
     clear HB
     have BK283 := n0_
     have BK284 := n1_
     have BK297 := n2_
     have BK298 := n3_
     have HB := n4_
     clear n0_ n1_ n2_ n3_ n4_
     (try clear hb)
     (try clear hb2)
     (try clear hk)
     (try clear hi)
     refine hK.out _ _ ⟨(blk_cell BK283.out 0).trans rfl, (blk_cell BK283.out 1).trans rfl, (blk_cell BK283.out 2).trans rfl, (blk_cell BK284.out 0).trans rfl, (blk_cell BK284.out 1).trans rfl, (blk_cell BK284.out 2).trans rfl⟩ (fun hHeld => ?_)
     clear hK K
     refine norm_ (a' := ?_) ?_ ?_
     rotate_left
     ·show Act.put _ (some 14) _ = _
      simp only [Act.put, setA, setZ, setS, i64_w, i32_w]
      rfl
     exact norm_ (by first | (simp only [putAll, Act.put, List.setIfInBounds_toArray, List.set_cons_zero, List.set_cons_succ]; done) | (simp only [putAll, Act.put, List.setIfInBounds_toArray, List.set_cons_zero, List.set_cons_succ]; rfl)) (hJ1_3_4_5 (gb297, gb298) _ ⟨hHeld, BK283.out, BK284.out, BK297.out, BK298.out, GW297.out, GE297.out, NB283_297.out, NB297_283.out, NB284_297.out, NB297_284.out, NB298_297.out, NB297_298.out, GW298.out, GE298.out, NB283_298.out, NB298_283.out, NB284_298.out, NB298_284.out, HB.out⟩)
   ·skip
    rintro gb298 w24 ⟨hS_, h0_, h1_, h2_, h3_, h4_, h5_, h6_, h7_, h8_, h9_⟩
    have n0_ : Aside0 (w24.heap[gb283]? = some (.cells #[.int .i64 t285, .int .i64 t286, .string t287] 27 (0, 0))) := ⟨h0_⟩
    have n1_ : Aside0 (w24.heap[gb284]? = some (.cells #[.int .i64 t288, .int .i64 t289, .string t290] 27 (0, 0))) := ⟨h1_⟩
    have n2_ : Aside0 (w24.heap[gb298]? = some (.cells #[.int .i64 0, .int .i64 0, .string (⟨#[]⟩ : ByteArray)] 38 (0, 0))) := ⟨h2_⟩
    have n3_ : Aside0 (w.heap.size ≤ gb298) := ⟨h3_⟩
    have n4_ : Aside0 (w.heap.size ≤ gb298) := ⟨h4_⟩
    have n5_ : Aside0 (gb283 ≠ gb298) := ⟨h5_⟩
    have n6_ : Aside0 (gb298 ≠ gb283) := ⟨h6_⟩
    have n7_ : Aside0 (gb284 ≠ gb298) := ⟨h7_⟩
    have n8_ : Aside0 (gb298 ≠ gb284) := ⟨h8_⟩
    have n9_ : Aside0 (Below w.heap.size w w24) := ⟨h9_⟩
    clear BK283
    clear BK284
    clear HB
    clear h0_ h1_ h2_ h3_ h4_ h5_ h6_ h7_ h8_ h9_
    have BK283 := n0_
    have BK284 := n1_
    have BK298 := n2_
    have GW298 := n3_
    have GE298 := n4_
    have NB283_298 := n5_
    have NB298_283 := n6_
    have NB284_298 := n7_
    have NB298_284 := n8_
    have HB := n9_
    clear n0_ n1_ n2_ n3_ n4_ n5_ n6_ n7_ n8_ n9_
    have hHeld : w24.cell? ⟨gb283, 0, none⟩ = some (.int .i64 t285) ∧ w24.cell? ⟨gb283, 1, none⟩ = some (.int .i64 t286) ∧ w24.cell? ⟨gb283, 2, none⟩ = some (.string t287) ∧ w24.cell? ⟨gb284, 0, none⟩ = some (.int .i64 t288) ∧ w24.cell? ⟨gb284, 1, none⟩ = some (.int .i64 t289) ∧ w24.cell? ⟨gb284, 2, none⟩ = some (.string t290) := hS_
    refine norm_ (a' := ?_) ?_ ?_
    rotate_left
    ·simp only [putAll, Act.put, List.setIfInBounds_toArray, List.set_cons_zero, List.set_cons_succ]
     rfl
    refine one_ (i := 4) (N := some 5) #[tt,tt,tt,tt,tt,tt,ff,ff] rfl rfl (one_of HT_.out (by kernel_rfl)) (by decide) (fun K hK => ?_)
    refine box_step ?hg (N := 5) ?hd (cs := #[.int .i64 0, .int .i64 0, .string (⟨#[]⟩ : ByteArray)]) (t := 38) ?hr ?_; (case hd => rfl); (case hg => rfl); (case hr => first | (go_simp; done) | (go_simp; rfl))
    intro gb297 hg w25 hbox hb
    have n0_ := Aside0.mk (blk_below BK283.out hb)
    have n1_ := Aside0.mk (blk_below BK284.out hb)
    have n2_ := Aside0.mk (blk_below BK298.out hb)
    have n3_ := Aside0.mk (below_step HB.out hb)
    have n4_ := Aside0.mk (hbox)
    have n5_ := Aside0.mk ((by rw [hg]; exact (below_size HB.out) : w.heap.size ≤ gb297))
    have n6_ := Aside0.mk ((by rw [hg]; exact (below_size HB.out) : w.heap.size ≤ gb297))
    have n7_ := Aside0.mk ((by rw [hg]; exact Nat.ne_of_lt (blk_lt (g := gb283) (o := .cells #[.int .i64 t285, .int .i64 t286, .string t287] 27 (0, 0)) BK283.out) : gb283 ≠ gb297))
    have n8_ := Aside0.mk ((by rw [hg]; exact Nat.ne_of_gt (blk_lt (g := gb283) (o := .cells #[.int .i64 t285, .int .i64 t286, .string t287] 27 (0, 0)) BK283.out) : gb297 ≠ gb283))
    have n9_ := Aside0.mk ((by rw [hg]; exact Nat.ne_of_lt (blk_lt (g := gb284) (o := .cells #[.int .i64 t288, .int .i64 t289, .string t290] 27 (0, 0)) BK284.out) : gb284 ≠ gb297))
    have n10_ := Aside0.mk ((by rw [hg]; exact Nat.ne_of_gt (blk_lt (g := gb284) (o := .cells #[.int .i64 t288, .int .i64 t289, .string t290] 27 (0, 0)) BK284.out) : gb297 ≠ gb284))
    have n11_ := Aside0.mk ((by rw [hg]; exact Nat.ne_of_lt (blk_lt (g := gb298) (o := .cells #[.int .i64 0, .int .i64 0, .string (⟨#[]⟩ : ByteArray)] 38 (0, 0)) BK298.out) : gb298 ≠ gb297))
    have n12_ := Aside0.mk ((by rw [hg]; exact Nat.ne_of_gt (blk_lt (g := gb298) (o := .cells #[.int .i64 0, .int .i64 0, .string (⟨#[]⟩ : ByteArray)] 38 (0, 0)) BK298.out) : gb297 ≠ gb298))
    clear BK283
    clear BK284
    clear BK298
    clear HB
    have BK283 := n0_
    have BK284 := n1_
    have BK298 := n2_
    have HB := n3_
    have BK297 := n4_
    have GW297 := n5_
    have GE297 := n6_
    have NB283_297 := n7_
    have NB297_283 := n8_
    have NB284_297 := n9_
    have NB297_284 := n10_
    have NB298_297 := n11_
    have NB297_298 := n12_
    clear n0_ n1_ n2_ n3_ n4_ n5_ n6_ n7_ n8_ n9_ n10_ n11_ n12_
    clear hb hbox hg
    refine hK.out _ _ ⟨(blk_cell BK283.out 0).trans rfl, (blk_cell BK283.out 1).trans rfl, (blk_cell BK283.out 2).trans rfl, (blk_cell BK284.out 0).trans rfl, (blk_cell BK284.out 1).trans rfl, (blk_cell BK284.out 2).trans rfl⟩ (fun hHeld => ?_)
    clear hK K
    refine norm_ (a' := ?_) ?_ ?_
    rotate_left
    ·show Act.put _ (some 5) _ = _
     simp only [Act.put, setA, setZ, setS, i64_w, i32_w]
     rfl
    exact norm_ (by first | (simp only [putAll, Act.put, List.setIfInBounds_toArray, List.set_cons_zero, List.set_cons_succ]; done) | (simp only [putAll, Act.put, List.setIfInBounds_toArray, List.set_cons_zero, List.set_cons_succ]; rfl)) (hJ1_3_4_5 (gb297, gb298) _ ⟨hHeld, BK283.out, BK284.out, BK297.out, BK298.out, GW297.out, GE297.out, NB283_297.out, NB297_283.out, NB284_297.out, NB297_284.out, NB298_297.out, NB297_298.out, GW298.out, GE298.out, NB283_298.out, NB298_283.out, NB284_298.out, NB298_284.out, HB.out⟩)
  ·skip
   rintro gb297 w24 ⟨hS_, h0_, h1_, h2_, h3_, h4_, h5_, h6_, h7_, h8_, h9_⟩
   have n0_ : Aside0 (w24.heap[gb283]? = some (.cells #[.int .i64 t285, .int .i64 t286, .string t287] 27 (0, 0))) := ⟨h0_⟩
   have n1_ : Aside0 (w24.heap[gb284]? = some (.cells #[.int .i64 t288, .int .i64 t289, .string t290] 27 (0, 0))) := ⟨h1_⟩
   have n2_ : Aside0 (w24.heap[gb297]? = some (.cells #[.int .i64 0, .int .i64 0, .string (⟨#[]⟩ : ByteArray)] 38 (0, 0))) := ⟨h2_⟩
   have n3_ : Aside0 (w.heap.size ≤ gb297) := ⟨h3_⟩
   have n4_ : Aside0 (w.heap.size ≤ gb297) := ⟨h4_⟩
   have n5_ : Aside0 (gb283 ≠ gb297) := ⟨h5_⟩
   have n6_ : Aside0 (gb297 ≠ gb283) := ⟨h6_⟩
   have n7_ : Aside0 (gb284 ≠ gb297) := ⟨h7_⟩
   have n8_ : Aside0 (gb297 ≠ gb284) := ⟨h8_⟩
   have n9_ : Aside0 (Below w.heap.size w w24) := ⟨h9_⟩
   clear BK283
   clear BK284
   clear HB
   clear h0_ h1_ h2_ h3_ h4_ h5_ h6_ h7_ h8_ h9_
   have BK283 := n0_
   have BK284 := n1_
   have BK297 := n2_
   have GW297 := n3_
   have GE297 := n4_
   have NB283_297 := n5_
   have NB297_283 := n6_
   have NB284_297 := n7_
   have NB297_284 := n8_
   have HB := n9_
   clear n0_ n1_ n2_ n3_ n4_ n5_ n6_ n7_ n8_ n9_
   have hHeld : w24.cell? ⟨gb283, 0, none⟩ = some (.int .i64 t285) ∧ w24.cell? ⟨gb283, 1, none⟩ = some (.int .i64 t286) ∧ w24.cell? ⟨gb283, 2, none⟩ = some (.string t287) ∧ w24.cell? ⟨gb284, 0, none⟩ = some (.int .i64 t288) ∧ w24.cell? ⟨gb284, 1, none⟩ = some (.int .i64 t289) ∧ w24.cell? ⟨gb284, 2, none⟩ = some (.string t290) := hS_
   refine norm_ (a' := ?_) ?_ ?_
   rotate_left
   ·simp only [putAll, Act.put, List.setIfInBounds_toArray, List.set_cons_zero, List.set_cons_succ]
    rfl
   refine one_ (i := 5) (N := some 6) #[tt,tt,tt,tt,tt,tt,ff,ff] rfl rfl (one_of HT_.out (by kernel_rfl)) (by decide) (fun K hK => ?_)
   refine box_step ?hg (N := 6) ?hd (cs := #[.int .i64 0, .int .i64 0, .string (⟨#[]⟩ : ByteArray)]) (t := 38) ?hr ?_; (case hd => rfl); (case hg => rfl); (case hr => first | (go_simp; done) | (go_simp; rfl))
   intro gb298 hg w25 hbox hb
   have n0_ := Aside0.mk (blk_below BK283.out hb)
   have n1_ := Aside0.mk (blk_below BK284.out hb)
   have n2_ := Aside0.mk (blk_below BK297.out hb)
   have n3_ := Aside0.mk (below_step HB.out hb)
   have n4_ := Aside0.mk (hbox)
   have n5_ := Aside0.mk ((by rw [hg]; exact (below_size HB.out) : w.heap.size ≤ gb298))
   have n6_ := Aside0.mk ((by rw [hg]; exact (below_size HB.out) : w.heap.size ≤ gb298))
   have n7_ := Aside0.mk ((by rw [hg]; exact Nat.ne_of_lt (blk_lt (g := gb283) (o := .cells #[.int .i64 t285, .int .i64 t286, .string t287] 27 (0, 0)) BK283.out) : gb283 ≠ gb298))
   have n8_ := Aside0.mk ((by rw [hg]; exact Nat.ne_of_gt (blk_lt (g := gb283) (o := .cells #[.int .i64 t285, .int .i64 t286, .string t287] 27 (0, 0)) BK283.out) : gb298 ≠ gb283))
   have n9_ := Aside0.mk ((by rw [hg]; exact Nat.ne_of_lt (blk_lt (g := gb284) (o := .cells #[.int .i64 t288, .int .i64 t289, .string t290] 27 (0, 0)) BK284.out) : gb284 ≠ gb298))
   have n10_ := Aside0.mk ((by rw [hg]; exact Nat.ne_of_gt (blk_lt (g := gb284) (o := .cells #[.int .i64 t288, .int .i64 t289, .string t290] 27 (0, 0)) BK284.out) : gb298 ≠ gb284))
   have n11_ := Aside0.mk ((by rw [hg]; exact Nat.ne_of_lt (blk_lt (g := gb297) (o := .cells #[.int .i64 0, .int .i64 0, .string (⟨#[]⟩ : ByteArray)] 38 (0, 0)) BK297.out) : gb297 ≠ gb298))
   have n12_ := Aside0.mk ((by rw [hg]; exact Nat.ne_of_gt (blk_lt (g := gb297) (o := .cells #[.int .i64 0, .int .i64 0, .string (⟨#[]⟩ : ByteArray)] 38 (0, 0)) BK297.out) : gb298 ≠ gb297))
   clear BK283
   clear BK284
   clear BK297
   clear HB
   have BK283 := n0_
   have BK284 := n1_
   have BK297 := n2_
   have HB := n3_
   have BK298 := n4_
   have GW298 := n5_
   have GE298 := n6_
   have NB283_298 := n7_
   have NB298_283 := n8_
   have NB284_298 := n9_
   have NB298_284 := n10_
   have NB297_298 := n11_
   have NB298_297 := n12_
   clear n0_ n1_ n2_ n3_ n4_ n5_ n6_ n7_ n8_ n9_ n10_ n11_ n12_
   clear hb hbox hg
   refine hK.out _ _ ⟨(blk_cell BK283.out 0).trans rfl, (blk_cell BK283.out 1).trans rfl, (blk_cell BK283.out 2).trans rfl, (blk_cell BK284.out 0).trans rfl, (blk_cell BK284.out 1).trans rfl, (blk_cell BK284.out 2).trans rfl⟩ (fun hHeld => ?_)
   clear hK K
   refine norm_ (a' := ?_) ?_ ?_
   rotate_left
   ·show Act.put _ (some 6) _ = _
    simp only [Act.put, setA, setZ, setS, i64_w, i32_w]
    rfl
   exact norm_ (by first | (simp only [putAll, Act.put, List.setIfInBounds_toArray, List.set_cons_zero, List.set_cons_succ]; done) | (simp only [putAll, Act.put, List.setIfInBounds_toArray, List.set_cons_zero, List.set_cons_succ]; rfl)) (hJ1_3_4_5 (gb297, gb298) _ ⟨hHeld, BK283.out, BK284.out, BK297.out, BK298.out, GW297.out, GE297.out, NB283_297.out, NB297_283.out, NB284_297.out, NB297_284.out, NB298_297.out, NB297_298.out, GW298.out, GE298.out, NB283_298.out, NB298_283.out, NB284_298.out, NB298_284.out, HB.out⟩)
 rintro ⟨gb297, gb298⟩ w25 ⟨hS_, h0_, h1_, h2_, h3_, h4_, h5_, h6_, h7_, h8_, h9_, h10_, h11_, h12_, h13_, h14_, h15_, h16_, h17_, h18_⟩
 have n0_ : Aside0 (w25.heap[gb283]? = some (.cells #[.int .i64 t285, .int .i64 t286, .string t287] 27 (0, 0))) := ⟨h0_⟩
 have n1_ : Aside0 (w25.heap[gb284]? = some (.cells #[.int .i64 t288, .int .i64 t289, .string t290] 27 (0, 0))) := ⟨h1_⟩
 have n2_ : Aside0 (w25.heap[gb297]? = some (.cells #[.int .i64 0, .int .i64 0, .string (⟨#[]⟩ : ByteArray)] 38 (0, 0))) := ⟨h2_⟩
 have n3_ : Aside0 (w25.heap[gb298]? = some (.cells #[.int .i64 0, .int .i64 0, .string (⟨#[]⟩ : ByteArray)] 38 (0, 0))) := ⟨h3_⟩
 have n4_ : Aside0 (w.heap.size ≤ gb297) := ⟨h4_⟩
 have n5_ : Aside0 (w.heap.size ≤ gb297) := ⟨h5_⟩
 have n6_ : Aside0 (gb283 ≠ gb297) := ⟨h6_⟩
 have n7_ : Aside0 (gb297 ≠ gb283) := ⟨h7_⟩
 have n8_ : Aside0 (gb284 ≠ gb297) := ⟨h8_⟩
 have n9_ : Aside0 (gb297 ≠ gb284) := ⟨h9_⟩
 have n10_ : Aside0 (gb298 ≠ gb297) := ⟨h10_⟩
 have n11_ : Aside0 (gb297 ≠ gb298) := ⟨h11_⟩
 have n12_ : Aside0 (w.heap.size ≤ gb298) := ⟨h12_⟩
 have n13_ : Aside0 (w.heap.size ≤ gb298) := ⟨h13_⟩
 have n14_ : Aside0 (gb283 ≠ gb298) := ⟨h14_⟩
 have n15_ : Aside0 (gb298 ≠ gb283) := ⟨h15_⟩
 have n16_ : Aside0 (gb284 ≠ gb298) := ⟨h16_⟩
 have n17_ : Aside0 (gb298 ≠ gb284) := ⟨h17_⟩
 have n18_ : Aside0 (Below w.heap.size w w25) := ⟨h18_⟩
 clear BK283
 clear BK284
 clear HB
 clear h0_ h1_ h2_ h3_ h4_ h5_ h6_ h7_ h8_ h9_ h10_ h11_ h12_ h13_ h14_ h15_ h16_ h17_ h18_
 have BK283 := n0_
 have BK284 := n1_
 have BK297 := n2_
 have BK298 := n3_
 have GW297 := n4_
 have GE297 := n5_
 have NB283_297 := n6_
 have NB297_283 := n7_
 have NB284_297 := n8_
 have NB297_284 := n9_
 have NB298_297 := n10_
 have NB297_298 := n11_
 have GW298 := n12_
 have GE298 := n13_
 have NB283_298 := n14_
 have NB298_283 := n15_
 have NB284_298 := n16_
 have NB298_284 := n17_
 have HB := n18_
 clear n0_ n1_ n2_ n3_ n4_ n5_ n6_ n7_ n8_ n9_ n10_ n11_ n12_ n13_ n14_ n15_ n16_ n17_ n18_
 have hHeld : w25.cell? ⟨gb283, 0, none⟩ = some (.int .i64 t285) ∧ w25.cell? ⟨gb283, 1, none⟩ = some (.int .i64 t286) ∧ w25.cell? ⟨gb283, 2, none⟩ = some (.string t287) ∧ w25.cell? ⟨gb284, 0, none⟩ = some (.int .i64 t288) ∧ w25.cell? ⟨gb284, 1, none⟩ = some (.int .i64 t289) ∧ w25.cell? ⟨gb284, 2, none⟩ = some (.string t290) := hS_
 refine norm_ (a' := ?_) ?_ ?_
 rotate_left
 ·simp only [putAll, Act.put, List.setIfInBounds_toArray, List.set_cons_zero, List.set_cons_succ]
  rfl
 refine one_ (i := 6) (N := none) #[tt,tt,tt,tt,tt,tt,tt,ff] rfl rfl (one_of HT_.out (by kernel_rfl)) (by decide) (fun K hK => ?_)
 have hs26 : w25.cell? ⟨gb297, 0, none⟩ = some (.int .i64 0) := (blk_cell BK297.out 0).trans rfl
 have hfs26 := blk_frozen BK297.out 0
 have hns26_0 := NB283_297.out
 have hns26_1 := NB284_297.out
 have hns26_3 := NB298_297.out
 have hms26_0 := NB297_283.out
 have hms26_1 := NB297_284.out
 have hms26_3 := NB297_298.out
 have hs27 : w25.cell? ⟨gb297, 1, none⟩ = some (.int .i64 0) := (blk_cell BK297.out 1).trans rfl
 have hfs27 := blk_frozen BK297.out 1
 have hns27_0 := NB283_297.out
 have hns27_1 := NB284_297.out
 have hns27_3 := NB298_297.out
 have hms27_0 := NB297_283.out
 have hms27_1 := NB297_284.out
 have hms27_3 := NB297_298.out
 have hs28 : w25.cell? ⟨gb297, 2, none⟩ = some (.string (⟨#[]⟩ : ByteArray)) := (blk_cell BK297.out 2).trans rfl
 have hfs28 := blk_frozen BK297.out 2
 have hns28_0 := NB283_297.out
 have hns28_1 := NB284_297.out
 have hns28_3 := NB298_297.out
 have hms28_0 := NB297_283.out
 have hms28_1 := NB297_284.out
 have hms28_3 := NB297_298.out
 refine skip_ (w1 := ?_) (by rfl) rfl ?_ ?_
 rotate_left
 ·go_simp
  rfl
 refine hK.out _ _ ⟨((cell_far (p := ⟨gb297, _, none⟩) NB283_297.out _).trans (((cell_far (p := ⟨gb297, _, none⟩) NB283_297.out _).trans (((cell_far (p := ⟨gb297, _, none⟩) NB283_297.out _).trans (hHeld.1)))))), ((cell_far (p := ⟨gb297, _, none⟩) NB283_297.out _).trans (((cell_far (p := ⟨gb297, _, none⟩) NB283_297.out _).trans (((cell_far (p := ⟨gb297, _, none⟩) NB283_297.out _).trans (hHeld.2.1)))))), ((cell_far (p := ⟨gb297, _, none⟩) NB283_297.out _).trans (((cell_far (p := ⟨gb297, _, none⟩) NB283_297.out _).trans (((cell_far (p := ⟨gb297, _, none⟩) NB283_297.out _).trans (hHeld.2.2.1)))))), ((cell_far (p := ⟨gb297, _, none⟩) NB284_297.out _).trans (((cell_far (p := ⟨gb297, _, none⟩) NB284_297.out _).trans (((cell_far (p := ⟨gb297, _, none⟩) NB284_297.out _).trans (hHeld.2.2.2.1)))))), ((cell_far (p := ⟨gb297, _, none⟩) NB284_297.out _).trans (((cell_far (p := ⟨gb297, _, none⟩) NB284_297.out _).trans (((cell_far (p := ⟨gb297, _, none⟩) NB284_297.out _).trans (hHeld.2.2.2.2.1)))))), ((cell_far (p := ⟨gb297, _, none⟩) NB284_297.out _).trans (((cell_far (p := ⟨gb297, _, none⟩) NB284_297.out _).trans (((cell_far (p := ⟨gb297, _, none⟩) NB284_297.out _).trans (hHeld.2.2.2.2.2))))))⟩ (fun hHeld => ?_)
 clear hK K
 refine one_ (i := 7) (N := none) #[tt,tt,tt,tt,tt,tt,tt,tt] rfl rfl (one_of HT_.out (by kernel_rfl)) (by decide) (fun K hK => ?_)
 have hs29 : w25.cell? ⟨gb298, 0, none⟩ = some (.int .i64 0) := (blk_cell BK298.out 0).trans rfl
 have hfs29 := blk_frozen BK298.out 0
 have hns29_0 := NB283_298.out
 have hns29_1 := NB284_298.out
 have hns29_2 := NB297_298.out
 have hms29_0 := NB298_283.out
 have hms29_1 := NB298_284.out
 have hms29_2 := NB298_297.out
 have hs30 : w25.cell? ⟨gb298, 1, none⟩ = some (.int .i64 0) := (blk_cell BK298.out 1).trans rfl
 have hfs30 := blk_frozen BK298.out 1
 have hns30_0 := NB283_298.out
 have hns30_1 := NB284_298.out
 have hns30_2 := NB297_298.out
 have hms30_0 := NB298_283.out
 have hms30_1 := NB298_284.out
 have hms30_2 := NB298_297.out
 have hs31 : w25.cell? ⟨gb298, 2, none⟩ = some (.string (⟨#[]⟩ : ByteArray)) := (blk_cell BK298.out 2).trans rfl
 have hfs31 := blk_frozen BK298.out 2
 have hns31_0 := NB283_298.out
 have hns31_1 := NB284_298.out
 have hns31_2 := NB297_298.out
 have hms31_0 := NB298_283.out
 have hms31_1 := NB298_284.out
 have hms31_2 := NB298_297.out
 refine skip_ (w1 := ?_) (by rfl) rfl ?_ ?_
 rotate_left
 ·go_simp
  rfl
 refine hK.out _ _ ⟨((cell_far (p := ⟨gb298, _, none⟩) NB283_298.out _).trans (((cell_far (p := ⟨gb298, _, none⟩) NB283_298.out _).trans (((cell_far (p := ⟨gb298, _, none⟩) NB283_298.out _).trans (hHeld.1)))))), ((cell_far (p := ⟨gb298, _, none⟩) NB283_298.out _).trans (((cell_far (p := ⟨gb298, _, none⟩) NB283_298.out _).trans (((cell_far (p := ⟨gb298, _, none⟩) NB283_298.out _).trans (hHeld.2.1)))))), ((cell_far (p := ⟨gb298, _, none⟩) NB283_298.out _).trans (((cell_far (p := ⟨gb298, _, none⟩) NB283_298.out _).trans (((cell_far (p := ⟨gb298, _, none⟩) NB283_298.out _).trans (hHeld.2.2.1)))))), ((cell_far (p := ⟨gb298, _, none⟩) NB284_298.out _).trans (((cell_far (p := ⟨gb298, _, none⟩) NB284_298.out _).trans (((cell_far (p := ⟨gb298, _, none⟩) NB284_298.out _).trans (hHeld.2.2.2.1)))))), ((cell_far (p := ⟨gb298, _, none⟩) NB284_298.out _).trans (((cell_far (p := ⟨gb298, _, none⟩) NB284_298.out _).trans (((cell_far (p := ⟨gb298, _, none⟩) NB284_298.out _).trans (hHeld.2.2.2.2.1)))))), ((cell_far (p := ⟨gb298, _, none⟩) NB284_298.out _).trans (((cell_far (p := ⟨gb298, _, none⟩) NB284_298.out _).trans (((cell_far (p := ⟨gb298, _, none⟩) NB284_298.out _).trans (hHeld.2.2.2.2.2))))))⟩ (fun hHeld => ?_)
 clear hK K
 refine done_ (done_of HT_.out (by kernel_rfl)) ?_
 go_upto_region 3 with (fail)
 go_cut [30] (fun v30 wc => ∃ (kq : Nat) (x30_6 : Bool), v30 = .bool x30_6 ∧ Aside0 (scribelaw06_CellIs.j0 kq x30_6 t285 t286 t287 t288 t289 t290 t291 t292 t293 t294 t295 t296 = some r) ∧ Aside0 (kq ≤ k) ∧ Aside0 (wc.heap[gb283]? = some (.cells #[.int .i64 t285, .int .i64 t286, .string t287] 27 (0, 0))) ∧ Aside0 (wc.heap[gb284]? = some (.cells #[.int .i64 t288, .int .i64 t289, .string t290] 27 (0, 0))) ∧ Aside0 (wc.heap[gb297]? = some (.cells #[.int .i64 t291, .int .i64 t292, .string t293] 38 (0, 0))) ∧ Aside0 (wc.heap[gb298]? = some (.cells #[.int .i64 t294, .int .i64 t295, .string t296] 38 (0, 0))) ∧ Aside0 (Below w.heap.size w wc))
 case first =>
  have H := HC7.out
  clear HC7
  replace H := Option.bind_eq_some_iff.mp H
  obtain ⟨t299, A320, H⟩ := H
  replace H : (if t299 = true then ((cell_Good.f k t285 t286 t287).bind fun t300 => ((scriberef06_Good.f k t291 t292 t293).bind fun t301 => (if (t300 != t301) = true then (scribelaw06_CellIs.j0 k true t285 t286 t287 t288 t289 t290 t291 t292 t293 t294 t295 t296) else ((cell_Good.f k t288 t289 t290).bind fun t302 => ((scriberef06_Good.f k t294 t295 t296).bind fun t303 => (scribelaw06_CellIs.j0 k (t302 != t303) t285 t286 t287 t288 t289 t290 t291 t292 t293 t294 t295 t296)))))) else (scribelaw06_CellIs.j0 k true t285 t286 t287 t288 t289 t290 t291 t292 t293 t294 t295 t296)) = some r := H
  have A32 := Aside0.mk A320
  clear A320
  by_cases c33 : t299 = true
  ·subst c33
   have H1 : ((cell_Good.f k t285 t286 t287).bind fun t300 => ((scriberef06_Good.f k t291 t292 t293).bind fun t301 => (if (t300 != t301) = true then (scribelaw06_CellIs.j0 k true t285 t286 t287 t288 t289 t290 t291 t292 t293 t294 t295 t296) else ((cell_Good.f k t288 t289 t290).bind fun t302 => ((scriberef06_Good.f k t294 t295 t296).bind fun t303 => (scribelaw06_CellIs.j0 k (t302 != t303) t285 t286 t287 t288 t289 t290 t291 t292 t293 t294 t295 t296)))))) = some r := by rw [if_pos rfl] at H; exact H
   clear H
   have H := H1
   clear H1
   replace H := Option.bind_eq_some_iff.mp H
   obtain ⟨t300, A340, H⟩ := H
   replace H : ((scriberef06_Good.f k t291 t292 t293).bind fun t301 => (if (t300 != t301) = true then (scribelaw06_CellIs.j0 k true t285 t286 t287 t288 t289 t290 t291 t292 t293 t294 t295 t296) else ((cell_Good.f k t288 t289 t290).bind fun t302 => ((scriberef06_Good.f k t294 t295 t296).bind fun t303 => (scribelaw06_CellIs.j0 k (t302 != t303) t285 t286 t287 t288 t289 t290 t291 t292 t293 t294 t295 t296))))) = some r := H
   have A34 := Aside0.mk A340
   clear A340
   replace H := Option.bind_eq_some_iff.mp H
   obtain ⟨t301, A350, H⟩ := H
   replace H : (if (t300 != t301) = true then (scribelaw06_CellIs.j0 k true t285 t286 t287 t288 t289 t290 t291 t292 t293 t294 t295 t296) else ((cell_Good.f k t288 t289 t290).bind fun t302 => ((scriberef06_Good.f k t294 t295 t296).bind fun t303 => (scribelaw06_CellIs.j0 k (t302 != t303) t285 t286 t287 t288 t289 t290 t291 t292 t293 t294 t295 t296)))) = some r := H
   have A35 := Aside0.mk A350
   clear A350
   by_cases c36 : (t300 != t301) = true
   ·rw [if_pos c36] at H
    have c36b0 : (t300 != t301) = true := c36
    (try (have c36b1 : decide (t300 = t301) = false := by simpa using c36))
    (try (have c36b2 : (t300 == t301) = false := by simpa using c36))
    (try (have c36b3 : ¬ (t300 = t301) := by simpa using c36))
    clear c36
    (first | rw [c36b0] | (simp only [i64_w, i32_w]; rw [c36b0]) | skip)
    have H' := Aside0.mk H
    clear H
    try go_wp2
    have n0_ : Aside0 (((((((w25.setCell ⟨gb297, 0, none⟩ (.int .i64 t291)).setCell ⟨gb297, 1, none⟩ (.int .i64 t292)).setCell ⟨gb297, 2, none⟩ (.string t293)).setCell ⟨gb298, 0, none⟩ (.int .i64 t294)).setCell ⟨gb298, 1, none⟩ (.int .i64 t295)).setCell ⟨gb298, 2, none⟩ (.string t296)).heap[gb283]? = some (.cells #[.int .i64 t285, .int .i64 t286, .string t287] 27 (0, 0))) := ⟨by (with_reducible repeat (first | refine blk_drewN ?_ _ | refine blk_drew ?_ | refine blk_alloc ?_ _)); refine blk_far ?_ NB283_298.out _; (with_reducible repeat (first | refine blk_drewN ?_ _ | refine blk_drew ?_ | refine blk_alloc ?_ _)); refine blk_far ?_ NB283_298.out _; (with_reducible repeat (first | refine blk_drewN ?_ _ | refine blk_drew ?_ | refine blk_alloc ?_ _)); refine blk_far ?_ NB283_298.out _; (with_reducible repeat (first | refine blk_drewN ?_ _ | refine blk_drew ?_ | refine blk_alloc ?_ _)); refine blk_far ?_ NB283_297.out _; (with_reducible repeat (first | refine blk_drewN ?_ _ | refine blk_drew ?_ | refine blk_alloc ?_ _)); refine blk_far ?_ NB283_297.out _; (with_reducible repeat (first | refine blk_drewN ?_ _ | refine blk_drew ?_ | refine blk_alloc ?_ _)); refine blk_far ?_ NB283_297.out _; (with_reducible repeat (first | refine blk_drewN ?_ _ | refine blk_drew ?_ | refine blk_alloc ?_ _)); exact BK283.out⟩
    have n1_ : Aside0 (((((((w25.setCell ⟨gb297, 0, none⟩ (.int .i64 t291)).setCell ⟨gb297, 1, none⟩ (.int .i64 t292)).setCell ⟨gb297, 2, none⟩ (.string t293)).setCell ⟨gb298, 0, none⟩ (.int .i64 t294)).setCell ⟨gb298, 1, none⟩ (.int .i64 t295)).setCell ⟨gb298, 2, none⟩ (.string t296)).heap[gb284]? = some (.cells #[.int .i64 t288, .int .i64 t289, .string t290] 27 (0, 0))) := ⟨by (with_reducible repeat (first | refine blk_drewN ?_ _ | refine blk_drew ?_ | refine blk_alloc ?_ _)); refine blk_far ?_ NB284_298.out _; (with_reducible repeat (first | refine blk_drewN ?_ _ | refine blk_drew ?_ | refine blk_alloc ?_ _)); refine blk_far ?_ NB284_298.out _; (with_reducible repeat (first | refine blk_drewN ?_ _ | refine blk_drew ?_ | refine blk_alloc ?_ _)); refine blk_far ?_ NB284_298.out _; (with_reducible repeat (first | refine blk_drewN ?_ _ | refine blk_drew ?_ | refine blk_alloc ?_ _)); refine blk_far ?_ NB284_297.out _; (with_reducible repeat (first | refine blk_drewN ?_ _ | refine blk_drew ?_ | refine blk_alloc ?_ _)); refine blk_far ?_ NB284_297.out _; (with_reducible repeat (first | refine blk_drewN ?_ _ | refine blk_drew ?_ | refine blk_alloc ?_ _)); refine blk_far ?_ NB284_297.out _; (with_reducible repeat (first | refine blk_drewN ?_ _ | refine blk_drew ?_ | refine blk_alloc ?_ _)); exact BK284.out⟩
    have n2_ : Aside0 (((((((w25.setCell ⟨gb297, 0, none⟩ (.int .i64 t291)).setCell ⟨gb297, 1, none⟩ (.int .i64 t292)).setCell ⟨gb297, 2, none⟩ (.string t293)).setCell ⟨gb298, 0, none⟩ (.int .i64 t294)).setCell ⟨gb298, 1, none⟩ (.int .i64 t295)).setCell ⟨gb298, 2, none⟩ (.string t296)).heap[gb297]? = some (.cells #[.int .i64 t291, .int .i64 t292, .string t293] 38 (0, 0))) := ⟨by (with_reducible repeat (first | refine blk_drewN ?_ _ | refine blk_drew ?_ | refine blk_alloc ?_ _)); refine blk_far ?_ NB297_298.out _; (with_reducible repeat (first | refine blk_drewN ?_ _ | refine blk_drew ?_ | refine blk_alloc ?_ _)); refine blk_far ?_ NB297_298.out _; (with_reducible repeat (first | refine blk_drewN ?_ _ | refine blk_drew ?_ | refine blk_alloc ?_ _)); refine blk_far ?_ NB297_298.out _; (with_reducible repeat (first | refine blk_drewN ?_ _ | refine blk_drew ?_ | refine blk_alloc ?_ _)); refine blk_put (cs := #[.int .i64 t291, .int .i64 t292, .string (⟨#[]⟩ : ByteArray)]) ?_ 2 _ rfl; (with_reducible repeat (first | refine blk_drewN ?_ _ | refine blk_drew ?_ | refine blk_alloc ?_ _)); refine blk_put (cs := #[.int .i64 t291, .int .i64 0, .string (⟨#[]⟩ : ByteArray)]) ?_ 1 _ rfl; (with_reducible repeat (first | refine blk_drewN ?_ _ | refine blk_drew ?_ | refine blk_alloc ?_ _)); refine blk_put (cs := #[.int .i64 0, .int .i64 0, .string (⟨#[]⟩ : ByteArray)]) ?_ 0 _ rfl; (with_reducible repeat (first | refine blk_drewN ?_ _ | refine blk_drew ?_ | refine blk_alloc ?_ _)); exact BK297.out⟩
    have n3_ : Aside0 (((((((w25.setCell ⟨gb297, 0, none⟩ (.int .i64 t291)).setCell ⟨gb297, 1, none⟩ (.int .i64 t292)).setCell ⟨gb297, 2, none⟩ (.string t293)).setCell ⟨gb298, 0, none⟩ (.int .i64 t294)).setCell ⟨gb298, 1, none⟩ (.int .i64 t295)).setCell ⟨gb298, 2, none⟩ (.string t296)).heap[gb298]? = some (.cells #[.int .i64 t294, .int .i64 t295, .string t296] 38 (0, 0))) := ⟨by (with_reducible repeat (first | refine blk_drewN ?_ _ | refine blk_drew ?_ | refine blk_alloc ?_ _)); refine blk_put (cs := #[.int .i64 t294, .int .i64 t295, .string (⟨#[]⟩ : ByteArray)]) ?_ 2 _ rfl; (with_reducible repeat (first | refine blk_drewN ?_ _ | refine blk_drew ?_ | refine blk_alloc ?_ _)); refine blk_put (cs := #[.int .i64 t294, .int .i64 0, .string (⟨#[]⟩ : ByteArray)]) ?_ 1 _ rfl; (with_reducible repeat (first | refine blk_drewN ?_ _ | refine blk_drew ?_ | refine blk_alloc ?_ _)); refine blk_put (cs := #[.int .i64 0, .int .i64 0, .string (⟨#[]⟩ : ByteArray)]) ?_ 0 _ rfl; (with_reducible repeat (first | refine blk_drewN ?_ _ | refine blk_drew ?_ | refine blk_alloc ?_ _)); refine blk_far ?_ NB298_297.out _; (with_reducible repeat (first | refine blk_drewN ?_ _ | refine blk_drew ?_ | refine blk_alloc ?_ _)); refine blk_far ?_ NB298_297.out _; (with_reducible repeat (first | refine blk_drewN ?_ _ | refine blk_drew ?_ | refine blk_alloc ?_ _)); refine blk_far ?_ NB298_297.out _; (with_reducible repeat (first | refine blk_drewN ?_ _ | refine blk_drew ?_ | refine blk_alloc ?_ _)); exact BK298.out⟩
    have n4_ : Aside0 (Below w.heap.size w ((((((w25.setCell ⟨gb297, 0, none⟩ (.int .i64 t291)).setCell ⟨gb297, 1, none⟩ (.int .i64 t292)).setCell ⟨gb297, 2, none⟩ (.string t293)).setCell ⟨gb298, 0, none⟩ (.int .i64 t294)).setCell ⟨gb298, 1, none⟩ (.int .i64 t295)).setCell ⟨gb298, 2, none⟩ (.string t296))) := ⟨by repeat (first | (with_reducible first | exact HB.out | apply below_alloc | apply pw_below_drewN | apply below_drew1 | refine below_set ?_ GE283.out | refine below_set ?_ GE284.out | refine below_set ?_ GE297.out | refine below_set ?_ GE298.out) | exact HB.out)⟩
    (try clear BK283)
    (try clear BK284)
    (try clear BK297)
    (try clear BK298)
    (try clear HB)
    generalize ((((((w25.setCell ⟨gb297, 0, none⟩ (.int .i64 t291)).setCell ⟨gb297, 1, none⟩ (.int .i64 t292)).setCell ⟨gb297, 2, none⟩ (.string t293)).setCell ⟨gb298, 0, none⟩ (.int .i64 t294)).setCell ⟨gb298, 1, none⟩ (.int .i64 t295)).setCell ⟨gb298, 2, none⟩ (.string t296)) = w37 at n0_ n1_ n2_ n3_ n4_ ⊢
    have BK283 := n0_
    have BK284 := n1_
    have BK297 := n2_
    have BK298 := n3_
    have HB := n4_
    clear n0_ n1_ n2_ n3_ n4_
    have n0_ := Aside0.mk (blk_drew BK283.out)
    have n1_ := Aside0.mk (blk_drew BK284.out)
    have n2_ := Aside0.mk (blk_drew BK297.out)
    have n3_ := Aside0.mk (blk_drew BK298.out)
    have n4_ := Aside0.mk (below_drew1 HB.out)
    clear BK283
    clear BK284
    clear BK297
    clear BK298
    clear HB
    have BK283 := n0_
    have BK284 := n1_
    have BK297 := n2_
    have BK298 := n3_
    have HB := n4_
    clear n0_ n1_ n2_ n3_ n4_
    refine start_ (n := 16) (S := fun w' => w'.cell? ⟨gb283, 0, none⟩ = some (.int .i64 t285) ∧ w'.cell? ⟨gb283, 1, none⟩ = some (.int .i64 t286) ∧ w'.cell? ⟨gb283, 2, none⟩ = some (.string t287) ∧ w'.cell? ⟨gb297, 0, none⟩ = some (.int .i64 t291) ∧ w'.cell? ⟨gb297, 1, none⟩ = some (.int .i64 t292) ∧ w'.cell? ⟨gb297, 2, none⟩ = some (.string t293)) (ds := []) #[ff,ff,ff,ff,ff,ff,ff,ff,ff,ff,ff,ff,ff,ff,ff,ff] (by kernel_rfl) rfl rfl ⟨(blk_cell BK283.out 0).trans rfl, (blk_cell BK283.out 1).trans rfl, (blk_cell BK283.out 2).trans rfl, (blk_cell BK297.out 0).trans rfl, (blk_cell BK297.out 1).trans rfl, (blk_cell BK297.out 2).trans rfl⟩ (fun hHeld => ?_); refine with_tabW scribelaw06_CellIs.tab3 scribelaw06_CellIs.bits3 (fun HT_ HW_ => ?_)
    generalize w37.drew = w38 at BK283 BK284 BK297 BK298 HB hHeld ⊢
    refine one_ (i := 0) (N := some 15) #[tt,ff,ff,ff,ff,ff,ff,ff,ff,ff,ff,ff,ff,ff,ff,ff] rfl rfl (one_of HT_.out (by kernel_rfl)) (by decide) (fun K hK => ?_)
    refine goes_ Tryd.func11 (by kernel_rfl) rfl #[] (by rfl) rfl rfl (by (try simp only [List.map_toArray, List.map_cons, List.map_nil]); first | done | rfl | (simp only [List.length_drop, List.length_take]; rfl)) ?_
    with_reducible refine (scribelaw06_awake.calls k  true _ ?side1 A32.out).mono ?_
    (case side1 => exact TB.below hT HB.out)
    rintro e w39 ⟨rfl, hb⟩
    refine ⟨_, rfl, ?_⟩
    have n0_ := Aside0.mk (blk_below BK283.out hb)
    have n1_ := Aside0.mk (blk_below BK284.out hb)
    have n2_ := Aside0.mk (blk_below BK297.out hb)
    have n3_ := Aside0.mk (blk_below BK298.out hb)
    have n4_ := Aside0.mk (below_step HB.out hb)
    clear BK283
    clear BK284
    clear BK297
    clear BK298
    clear HB
    have BK283 := n0_
    have BK284 := n1_
    have BK297 := n2_
    have BK298 := n3_
    have HB := n4_
    clear n0_ n1_ n2_ n3_ n4_
    (try clear hb)
    (try clear hb2)
    (try clear hk)
    (try clear hi)
    refine hK.out _ _ ⟨(blk_cell BK283.out 0).trans rfl, (blk_cell BK283.out 1).trans rfl, (blk_cell BK283.out 2).trans rfl, (blk_cell BK297.out 0).trans rfl, (blk_cell BK297.out 1).trans rfl, (blk_cell BK297.out 2).trans rfl⟩ (fun hHeld => ?_)
    clear hK K
    refine norm_ (a' := ?_) ?_ ?_
    rotate_left
    ·show Act.put _ (some 15) _ = _
     simp only [Act.put, setA, setZ, setS, i64_w, i32_w]
     rfl
    refine pure_ (i := 1) (N := some 16) (v := ?_) (a' := ?_) #[tt,tt,ff,ff,ff,ff,ff,ff,ff,ff,ff,ff,ff,ff,ff,ff] rfl rfl (any_of HT_.out (by kernel_rfl)) (fun _ _ _ h => h) (Or.inl ⟨by rfl, ?_⟩) ?_ ?_
    rotate_left
    ·intro w'
     go_simp
     with_reducible rfl
    rotate_left
    ·simp only [Act.put, setA, setZ, setS, i64_w, i32_w]
     rfl
    refine pure_ (i := 2) (N := some 17) (v := ?_) (a' := ?_) #[tt,tt,tt,ff,ff,ff,ff,ff,ff,ff,ff,ff,ff,ff,ff,ff] rfl rfl (any_of HT_.out (by kernel_rfl)) (fun _ _ _ h => h) (Or.inl ⟨by rfl, ?_⟩) ?_ ?_
    rotate_left
    ·intro w'
     go_simp
     with_reducible rfl
    rotate_left
    ·simp only [Act.put, setA, setZ, setS, i64_w, i32_w]
     rfl
    refine take_ (i := 3) (N := some 18) (v := ?_) (a' := ?_) #[tt,tt,tt,tt,ff,ff,ff,ff,ff,ff,ff,ff,ff,ff,ff,ff] rfl rfl (take_ofW HT_.out HW_.out (by kernel_rfl)) (fun _ _ _ h => h) (Or.inl ⟨by rfl, ?_⟩) hHeld ?_ ?_
    rotate_left
    ·rintro w' ⟨s0, s1, s2, s3, s4, s5⟩
     go_simp
     with_reducible rfl
    rotate_left
    ·simp only [Act.put, setA, setZ, setS, i64_w, i32_w]
     rfl
    refine take_ (i := 5) (N := some 20) (v := ?_) (a' := ?_) #[tt,tt,tt,tt,ff,tt,ff,ff,ff,ff,ff,ff,ff,ff,ff,ff] rfl rfl (take_ofW HT_.out HW_.out (by kernel_rfl)) (fun _ _ _ h => h) (Or.inl ⟨by rfl, ?_⟩) hHeld ?_ ?_
    rotate_left
    ·rintro w' ⟨s0, s1, s2, s3, s4, s5⟩
     go_simp
     with_reducible rfl
    rotate_left
    ·simp only [Act.put, setA, setZ, setS, i64_w, i32_w]
     rfl
    refine one_ (i := 4) (N := some 19) #[tt,tt,tt,tt,tt,tt,ff,ff,ff,ff,ff,ff,ff,ff,ff,ff] rfl rfl (one_of HT_.out (by kernel_rfl)) (by decide) (fun K hK => ?_)
    refine goes_ Tryd.func18 (by kernel_rfl) rfl #[.agg #[.int .i64 t285, .int .i64 t286, .string t287]] (by rfl) rfl rfl (by (try simp only [List.map_toArray, List.map_cons, List.map_nil]); first | done | rfl | (simp only [List.length_drop, List.length_take]; rfl)) ?_
    with_reducible refine (cell_Good.calls k t285 t286 t287 t300 _ ?side1 A34.out).mono ?_
    (case side1 => exact TB.below hT HB.out)
    rintro e w40 ⟨rfl, hb⟩
    refine ⟨_, rfl, ?_⟩
    have n0_ := Aside0.mk (blk_below BK283.out hb)
    have n1_ := Aside0.mk (blk_below BK284.out hb)
    have n2_ := Aside0.mk (blk_below BK297.out hb)
    have n3_ := Aside0.mk (blk_below BK298.out hb)
    have n4_ := Aside0.mk (below_step HB.out hb)
    clear BK283
    clear BK284
    clear BK297
    clear BK298
    clear HB
    have BK283 := n0_
    have BK284 := n1_
    have BK297 := n2_
    have BK298 := n3_
    have HB := n4_
    clear n0_ n1_ n2_ n3_ n4_
    (try clear hb)
    (try clear hb2)
    (try clear hk)
    (try clear hi)
    refine hK.out _ _ ⟨(blk_cell BK283.out 0).trans rfl, (blk_cell BK283.out 1).trans rfl, (blk_cell BK283.out 2).trans rfl, (blk_cell BK297.out 0).trans rfl, (blk_cell BK297.out 1).trans rfl, (blk_cell BK297.out 2).trans rfl⟩ (fun hHeld => ?_)
    clear hK K
    refine norm_ (a' := ?_) ?_ ?_
    rotate_left
    ·show Act.put _ (some 19) _ = _
     simp only [Act.put, setA, setZ, setS, i64_w, i32_w]
     rfl
    refine one_ (i := 6) (N := some 21) #[tt,tt,tt,tt,tt,tt,tt,ff,ff,ff,ff,ff,ff,ff,ff,ff] rfl rfl (one_of HT_.out (by kernel_rfl)) (by decide) (fun K hK => ?_)
    refine goes_ Tryd.func22 (by kernel_rfl) rfl #[.agg #[.int .i64 t291, .int .i64 t292, .string t293]] (by rfl) rfl rfl (by (try simp only [List.map_toArray, List.map_cons, List.map_nil]); first | done | rfl | (simp only [List.length_drop, List.length_take]; rfl)) ?_
    with_reducible refine (scriberef06_Good.calls k t291 t292 t293 t301 _ ?side1 A35.out).mono ?_
    (case side1 => exact TB.below hT HB.out)
    rintro e w41 ⟨rfl, hb⟩
    refine ⟨_, rfl, ?_⟩
    have n0_ := Aside0.mk (blk_below BK283.out hb)
    have n1_ := Aside0.mk (blk_below BK284.out hb)
    have n2_ := Aside0.mk (blk_below BK297.out hb)
    have n3_ := Aside0.mk (blk_below BK298.out hb)
    have n4_ := Aside0.mk (below_step HB.out hb)
    clear BK283
    clear BK284
    clear BK297
    clear BK298
    clear HB
    have BK283 := n0_
    have BK284 := n1_
    have BK297 := n2_
    have BK298 := n3_
    have HB := n4_
    clear n0_ n1_ n2_ n3_ n4_
    (try clear hb)
    (try clear hb2)
    (try clear hk)
    (try clear hi)
    refine hK.out _ _ ⟨(blk_cell BK283.out 0).trans rfl, (blk_cell BK283.out 1).trans rfl, (blk_cell BK283.out 2).trans rfl, (blk_cell BK297.out 0).trans rfl, (blk_cell BK297.out 1).trans rfl, (blk_cell BK297.out 2).trans rfl⟩ (fun hHeld => ?_)
    clear hK K
    refine norm_ (a' := ?_) ?_ ?_
    rotate_left
    ·show Act.put _ (some 21) _ = _
     simp only [Act.put, setA, setZ, setS, i64_w, i32_w]
     rfl
    refine pure_ (i := 7) (N := some 22) (v := ?_) (a' := ?_) #[tt,tt,tt,tt,tt,tt,tt,tt,ff,ff,ff,ff,ff,ff,ff,ff] rfl rfl (any_of HT_.out (by kernel_rfl)) (fun _ _ _ h => h) (Or.inl ⟨by rfl, ?_⟩) ?_ ?_
    rotate_left
    ·intro w'
     go_simp
     with_reducible rfl
    rotate_left
    ·simp only [Act.put, setA, setZ, setS, i64_w, i32_w]
     rfl
    refine pure_ (i := 8) (N := some 23) (v := ?_) (a' := ?_) #[tt,tt,tt,tt,tt,tt,tt,tt,tt,ff,ff,ff,ff,ff,ff,ff] rfl rfl (any_of HT_.out (by kernel_rfl)) (fun _ _ _ h => h) (Or.inl ⟨by rfl, ?_⟩) ?_ ?_
    rotate_left
    ·intro w'
     go_simp
     with_reducible rfl
    rotate_left
    ·simp only [Act.put, setA, setZ, setS, i64_w, i32_w]
     rfl
    refine pure_ (i := 9) (N := some 24) (v := ?_) (a' := ?_) #[tt,tt,tt,tt,tt,tt,tt,tt,tt,tt,ff,ff,ff,ff,ff,ff] rfl rfl (any_of HT_.out (by kernel_rfl)) (fun _ _ _ h => h) (Or.inl ⟨by rfl, ?_⟩) ?_ ?_
    rotate_left
    ·intro w'
     go_simp
     with_reducible rfl
    rotate_left
    ·simp only [Act.put, setA, setZ, setS, i64_w, i32_w]
     rfl
    refine pure_ (i := 10) (N := some 25) (v := undef) (a' := ?_) #[tt,tt,tt,tt,tt,tt,tt,tt,tt,tt,tt,ff,ff,ff,ff,ff] rfl rfl (any_of HT_.out (by kernel_rfl)) (fun _ _ _ h => h) (Or.inr ⟨by rfl, rfl⟩) ?_ ?_
    rotate_left
    ·simp only [Act.put, setA, setZ, setS, i64_w, i32_w]
     rfl
    refine pure_ (i := 11) (N := some 26) (v := undef) (a' := ?_) #[tt,tt,tt,tt,tt,tt,tt,tt,tt,tt,tt,tt,ff,ff,ff,ff] rfl rfl (any_of HT_.out (by kernel_rfl)) (fun _ _ _ h => h) (Or.inr ⟨by rfl, rfl⟩) ?_ ?_
    rotate_left
    ·simp only [Act.put, setA, setZ, setS, i64_w, i32_w]
     rfl
    refine pure_ (i := 12) (N := some 27) (v := undef) (a' := ?_) #[tt,tt,tt,tt,tt,tt,tt,tt,tt,tt,tt,tt,tt,ff,ff,ff] rfl rfl (any_of HT_.out (by kernel_rfl)) (fun _ _ _ h => h) (Or.inr ⟨by rfl, rfl⟩) ?_ ?_
    rotate_left
    ·simp only [Act.put, setA, setZ, setS, i64_w, i32_w]
     rfl
    refine pure_ (i := 13) (N := some 28) (v := undef) (a' := ?_) #[tt,tt,tt,tt,tt,tt,tt,tt,tt,tt,tt,tt,tt,tt,ff,ff] rfl rfl (any_of HT_.out (by kernel_rfl)) (fun _ _ _ h => h) (Or.inr ⟨by rfl, rfl⟩) ?_ ?_
    rotate_left
    ·simp only [Act.put, setA, setZ, setS, i64_w, i32_w]
     rfl
    refine pure_ (i := 14) (N := some 29) (v := undef) (a' := ?_) #[tt,tt,tt,tt,tt,tt,tt,tt,tt,tt,tt,tt,tt,tt,tt,ff] rfl rfl (any_of HT_.out (by kernel_rfl)) (fun _ _ _ h => h) (Or.inr ⟨by rfl, rfl⟩) ?_ ?_
    rotate_left
    ·simp only [Act.put, setA, setZ, setS, i64_w, i32_w]
     rfl
    refine pure_ (i := 15) (N := some 30) (v := ?_) (a' := ?_) #[tt,tt,tt,tt,tt,tt,tt,tt,tt,tt,tt,tt,tt,tt,tt,tt] rfl rfl (any_of HT_.out (by kernel_rfl)) (fun _ _ _ h => h) (Or.inl ⟨by rfl, ?_⟩) ?_ ?_
    rotate_left
    ·intro w'
     go_simp
     with_reducible rfl
    rotate_left
    ·simp only [Act.put, setA, setZ, setS, i64_w, i32_w]
     rfl
    refine done_ (done_of HT_.out (by kernel_rfl)) ?_
    try go_wp2
    go_meet
    case rel => exact ⟨_, (true), (by first | rfl | (simp; done) | (simp [*]; done) | (simp; unfold wrap64; omega)), H', ⟨by first | omega | exact Nat.le_refl _⟩, ⟨by (with_reducible repeat (first | refine blk_drewN ?_ _ | refine blk_drew ?_ | refine blk_alloc ?_ _)); exact BK283.out⟩, ⟨by (with_reducible repeat (first | refine blk_drewN ?_ _ | refine blk_drew ?_ | refine blk_alloc ?_ _)); exact BK284.out⟩, ⟨by (with_reducible repeat (first | refine blk_drewN ?_ _ | refine blk_drew ?_ | refine blk_alloc ?_ _)); exact BK297.out⟩, ⟨by (with_reducible repeat (first | refine blk_drewN ?_ _ | refine blk_drew ?_ | refine blk_alloc ?_ _)); exact BK298.out⟩, ⟨by repeat (first | (with_reducible first | exact HB.out | apply below_alloc | apply pw_below_drewN | apply below_drew1 | refine below_set ?_ GE283.out | refine below_set ?_ GE284.out | refine below_set ?_ GE297.out | refine below_set ?_ GE298.out) | exact HB.out)⟩⟩
   ·rw [if_neg c36] at H
    have c36b0 : (t300 != t301) = false := by simpa using c36
    (try (have c36b1 : decide (t300 = t301) = true := by simpa using c36))
    (try (have c36b2 : (t300 == t301) = true := by simpa using c36))
    clear c36
    (first | rw [c36b0] | (simp only [i64_w, i32_w]; rw [c36b0]) | skip)
    replace H := Option.bind_eq_some_iff.mp H
    obtain ⟨t302, A420, H⟩ := H
    replace H : ((scriberef06_Good.f k t294 t295 t296).bind fun t303 => (scribelaw06_CellIs.j0 k (t302 != t303) t285 t286 t287 t288 t289 t290 t291 t292 t293 t294 t295 t296)) = some r := H
    have A42 := Aside0.mk A420
    clear A420
    replace H := Option.bind_eq_some_iff.mp H
    obtain ⟨t303, A430, H⟩ := H
    replace H : (scribelaw06_CellIs.j0 k (t302 != t303) t285 t286 t287 t288 t289 t290 t291 t292 t293 t294 t295 t296) = some r := H
    have A43 := Aside0.mk A430
    clear A430
    have H' := Aside0.mk H
    clear H
    try go_wp2
    have n0_ : Aside0 (((((((w25.setCell ⟨gb297, 0, none⟩ (.int .i64 t291)).setCell ⟨gb297, 1, none⟩ (.int .i64 t292)).setCell ⟨gb297, 2, none⟩ (.string t293)).setCell ⟨gb298, 0, none⟩ (.int .i64 t294)).setCell ⟨gb298, 1, none⟩ (.int .i64 t295)).setCell ⟨gb298, 2, none⟩ (.string t296)).heap[gb283]? = some (.cells #[.int .i64 t285, .int .i64 t286, .string t287] 27 (0, 0))) := ⟨by (with_reducible repeat (first | refine blk_drewN ?_ _ | refine blk_drew ?_ | refine blk_alloc ?_ _)); refine blk_far ?_ NB283_298.out _; (with_reducible repeat (first | refine blk_drewN ?_ _ | refine blk_drew ?_ | refine blk_alloc ?_ _)); refine blk_far ?_ NB283_298.out _; (with_reducible repeat (first | refine blk_drewN ?_ _ | refine blk_drew ?_ | refine blk_alloc ?_ _)); refine blk_far ?_ NB283_298.out _; (with_reducible repeat (first | refine blk_drewN ?_ _ | refine blk_drew ?_ | refine blk_alloc ?_ _)); refine blk_far ?_ NB283_297.out _; (with_reducible repeat (first | refine blk_drewN ?_ _ | refine blk_drew ?_ | refine blk_alloc ?_ _)); refine blk_far ?_ NB283_297.out _; (with_reducible repeat (first | refine blk_drewN ?_ _ | refine blk_drew ?_ | refine blk_alloc ?_ _)); refine blk_far ?_ NB283_297.out _; (with_reducible repeat (first | refine blk_drewN ?_ _ | refine blk_drew ?_ | refine blk_alloc ?_ _)); exact BK283.out⟩
    have n1_ : Aside0 (((((((w25.setCell ⟨gb297, 0, none⟩ (.int .i64 t291)).setCell ⟨gb297, 1, none⟩ (.int .i64 t292)).setCell ⟨gb297, 2, none⟩ (.string t293)).setCell ⟨gb298, 0, none⟩ (.int .i64 t294)).setCell ⟨gb298, 1, none⟩ (.int .i64 t295)).setCell ⟨gb298, 2, none⟩ (.string t296)).heap[gb284]? = some (.cells #[.int .i64 t288, .int .i64 t289, .string t290] 27 (0, 0))) := ⟨by (with_reducible repeat (first | refine blk_drewN ?_ _ | refine blk_drew ?_ | refine blk_alloc ?_ _)); refine blk_far ?_ NB284_298.out _; (with_reducible repeat (first | refine blk_drewN ?_ _ | refine blk_drew ?_ | refine blk_alloc ?_ _)); refine blk_far ?_ NB284_298.out _; (with_reducible repeat (first | refine blk_drewN ?_ _ | refine blk_drew ?_ | refine blk_alloc ?_ _)); refine blk_far ?_ NB284_298.out _; (with_reducible repeat (first | refine blk_drewN ?_ _ | refine blk_drew ?_ | refine blk_alloc ?_ _)); refine blk_far ?_ NB284_297.out _; (with_reducible repeat (first | refine blk_drewN ?_ _ | refine blk_drew ?_ | refine blk_alloc ?_ _)); refine blk_far ?_ NB284_297.out _; (with_reducible repeat (first | refine blk_drewN ?_ _ | refine blk_drew ?_ | refine blk_alloc ?_ _)); refine blk_far ?_ NB284_297.out _; (with_reducible repeat (first | refine blk_drewN ?_ _ | refine blk_drew ?_ | refine blk_alloc ?_ _)); exact BK284.out⟩
    have n2_ : Aside0 (((((((w25.setCell ⟨gb297, 0, none⟩ (.int .i64 t291)).setCell ⟨gb297, 1, none⟩ (.int .i64 t292)).setCell ⟨gb297, 2, none⟩ (.string t293)).setCell ⟨gb298, 0, none⟩ (.int .i64 t294)).setCell ⟨gb298, 1, none⟩ (.int .i64 t295)).setCell ⟨gb298, 2, none⟩ (.string t296)).heap[gb297]? = some (.cells #[.int .i64 t291, .int .i64 t292, .string t293] 38 (0, 0))) := ⟨by (with_reducible repeat (first | refine blk_drewN ?_ _ | refine blk_drew ?_ | refine blk_alloc ?_ _)); refine blk_far ?_ NB297_298.out _; (with_reducible repeat (first | refine blk_drewN ?_ _ | refine blk_drew ?_ | refine blk_alloc ?_ _)); refine blk_far ?_ NB297_298.out _; (with_reducible repeat (first | refine blk_drewN ?_ _ | refine blk_drew ?_ | refine blk_alloc ?_ _)); refine blk_far ?_ NB297_298.out _; (with_reducible repeat (first | refine blk_drewN ?_ _ | refine blk_drew ?_ | refine blk_alloc ?_ _)); refine blk_put (cs := #[.int .i64 t291, .int .i64 t292, .string (⟨#[]⟩ : ByteArray)]) ?_ 2 _ rfl; (with_reducible repeat (first | refine blk_drewN ?_ _ | refine blk_drew ?_ | refine blk_alloc ?_ _)); refine blk_put (cs := #[.int .i64 t291, .int .i64 0, .string (⟨#[]⟩ : ByteArray)]) ?_ 1 _ rfl; (with_reducible repeat (first | refine blk_drewN ?_ _ | refine blk_drew ?_ | refine blk_alloc ?_ _)); refine blk_put (cs := #[.int .i64 0, .int .i64 0, .string (⟨#[]⟩ : ByteArray)]) ?_ 0 _ rfl; (with_reducible repeat (first | refine blk_drewN ?_ _ | refine blk_drew ?_ | refine blk_alloc ?_ _)); exact BK297.out⟩
    have n3_ : Aside0 (((((((w25.setCell ⟨gb297, 0, none⟩ (.int .i64 t291)).setCell ⟨gb297, 1, none⟩ (.int .i64 t292)).setCell ⟨gb297, 2, none⟩ (.string t293)).setCell ⟨gb298, 0, none⟩ (.int .i64 t294)).setCell ⟨gb298, 1, none⟩ (.int .i64 t295)).setCell ⟨gb298, 2, none⟩ (.string t296)).heap[gb298]? = some (.cells #[.int .i64 t294, .int .i64 t295, .string t296] 38 (0, 0))) := ⟨by (with_reducible repeat (first | refine blk_drewN ?_ _ | refine blk_drew ?_ | refine blk_alloc ?_ _)); refine blk_put (cs := #[.int .i64 t294, .int .i64 t295, .string (⟨#[]⟩ : ByteArray)]) ?_ 2 _ rfl; (with_reducible repeat (first | refine blk_drewN ?_ _ | refine blk_drew ?_ | refine blk_alloc ?_ _)); refine blk_put (cs := #[.int .i64 t294, .int .i64 0, .string (⟨#[]⟩ : ByteArray)]) ?_ 1 _ rfl; (with_reducible repeat (first | refine blk_drewN ?_ _ | refine blk_drew ?_ | refine blk_alloc ?_ _)); refine blk_put (cs := #[.int .i64 0, .int .i64 0, .string (⟨#[]⟩ : ByteArray)]) ?_ 0 _ rfl; (with_reducible repeat (first | refine blk_drewN ?_ _ | refine blk_drew ?_ | refine blk_alloc ?_ _)); refine blk_far ?_ NB298_297.out _; (with_reducible repeat (first | refine blk_drewN ?_ _ | refine blk_drew ?_ | refine blk_alloc ?_ _)); refine blk_far ?_ NB298_297.out _; (with_reducible repeat (first | refine blk_drewN ?_ _ | refine blk_drew ?_ | refine blk_alloc ?_ _)); refine blk_far ?_ NB298_297.out _; (with_reducible repeat (first | refine blk_drewN ?_ _ | refine blk_drew ?_ | refine blk_alloc ?_ _)); exact BK298.out⟩
    have n4_ : Aside0 (Below w.heap.size w ((((((w25.setCell ⟨gb297, 0, none⟩ (.int .i64 t291)).setCell ⟨gb297, 1, none⟩ (.int .i64 t292)).setCell ⟨gb297, 2, none⟩ (.string t293)).setCell ⟨gb298, 0, none⟩ (.int .i64 t294)).setCell ⟨gb298, 1, none⟩ (.int .i64 t295)).setCell ⟨gb298, 2, none⟩ (.string t296))) := ⟨by repeat (first | (with_reducible first | exact HB.out | apply below_alloc | apply pw_below_drewN | apply below_drew1 | refine below_set ?_ GE283.out | refine below_set ?_ GE284.out | refine below_set ?_ GE297.out | refine below_set ?_ GE298.out) | exact HB.out)⟩
    (try clear BK283)
    (try clear BK284)
    (try clear BK297)
    (try clear BK298)
    (try clear HB)
    generalize ((((((w25.setCell ⟨gb297, 0, none⟩ (.int .i64 t291)).setCell ⟨gb297, 1, none⟩ (.int .i64 t292)).setCell ⟨gb297, 2, none⟩ (.string t293)).setCell ⟨gb298, 0, none⟩ (.int .i64 t294)).setCell ⟨gb298, 1, none⟩ (.int .i64 t295)).setCell ⟨gb298, 2, none⟩ (.string t296)) = w44 at n0_ n1_ n2_ n3_ n4_ ⊢
    have BK283 := n0_
    have BK284 := n1_
    have BK297 := n2_
    have BK298 := n3_
    have HB := n4_
    clear n0_ n1_ n2_ n3_ n4_
    have n0_ := Aside0.mk (blk_drew BK283.out)
    have n1_ := Aside0.mk (blk_drew BK284.out)
    have n2_ := Aside0.mk (blk_drew BK297.out)
    have n3_ := Aside0.mk (blk_drew BK298.out)
    have n4_ := Aside0.mk (below_drew1 HB.out)
    clear BK283
    clear BK284
    clear BK297
    clear BK298
    clear HB
    have BK283 := n0_
    have BK284 := n1_
    have BK297 := n2_
    have BK298 := n3_
    have HB := n4_
    clear n0_ n1_ n2_ n3_ n4_
    refine start_ (n := 16) (S := fun w' => w'.cell? ⟨gb283, 0, none⟩ = some (.int .i64 t285) ∧ w'.cell? ⟨gb283, 1, none⟩ = some (.int .i64 t286) ∧ w'.cell? ⟨gb283, 2, none⟩ = some (.string t287) ∧ w'.cell? ⟨gb297, 0, none⟩ = some (.int .i64 t291) ∧ w'.cell? ⟨gb297, 1, none⟩ = some (.int .i64 t292) ∧ w'.cell? ⟨gb297, 2, none⟩ = some (.string t293) ∧ w'.cell? ⟨gb284, 0, none⟩ = some (.int .i64 t288) ∧ w'.cell? ⟨gb284, 1, none⟩ = some (.int .i64 t289) ∧ w'.cell? ⟨gb284, 2, none⟩ = some (.string t290) ∧ w'.cell? ⟨gb298, 0, none⟩ = some (.int .i64 t294) ∧ w'.cell? ⟨gb298, 1, none⟩ = some (.int .i64 t295) ∧ w'.cell? ⟨gb298, 2, none⟩ = some (.string t296)) (ds := []) #[ff,ff,ff,ff,ff,ff,ff,ff,ff,ff,ff,ff,ff,ff,ff,ff] (by kernel_rfl) rfl rfl ⟨(blk_cell BK283.out 0).trans rfl, (blk_cell BK283.out 1).trans rfl, (blk_cell BK283.out 2).trans rfl, (blk_cell BK297.out 0).trans rfl, (blk_cell BK297.out 1).trans rfl, (blk_cell BK297.out 2).trans rfl, (blk_cell BK284.out 0).trans rfl, (blk_cell BK284.out 1).trans rfl, (blk_cell BK284.out 2).trans rfl, (blk_cell BK298.out 0).trans rfl, (blk_cell BK298.out 1).trans rfl, (blk_cell BK298.out 2).trans rfl⟩ (fun hHeld => ?_); refine with_tabW scribelaw06_CellIs.tab3 scribelaw06_CellIs.bits3 (fun HT_ HW_ => ?_)
    generalize w44.drew = w45 at BK283 BK284 BK297 BK298 HB hHeld ⊢
    refine one_ (i := 0) (N := some 15) #[tt,ff,ff,ff,ff,ff,ff,ff,ff,ff,ff,ff,ff,ff,ff,ff] rfl rfl (one_of HT_.out (by kernel_rfl)) (by decide) (fun K hK => ?_)
    refine goes_ Tryd.func11 (by kernel_rfl) rfl #[] (by rfl) rfl rfl (by (try simp only [List.map_toArray, List.map_cons, List.map_nil]); first | done | rfl | (simp only [List.length_drop, List.length_take]; rfl)) ?_
    with_reducible refine (scribelaw06_awake.calls k  true _ ?side1 A32.out).mono ?_
    (case side1 => exact TB.below hT HB.out)
    rintro e w46 ⟨rfl, hb⟩
    refine ⟨_, rfl, ?_⟩
    have n0_ := Aside0.mk (blk_below BK283.out hb)
    have n1_ := Aside0.mk (blk_below BK284.out hb)
    have n2_ := Aside0.mk (blk_below BK297.out hb)
    have n3_ := Aside0.mk (blk_below BK298.out hb)
    have n4_ := Aside0.mk (below_step HB.out hb)
    clear BK283
    clear BK284
    clear BK297
    clear BK298
    clear HB
    have BK283 := n0_
    have BK284 := n1_
    have BK297 := n2_
    have BK298 := n3_
    have HB := n4_
    clear n0_ n1_ n2_ n3_ n4_
    (try clear hb)
    (try clear hb2)
    (try clear hk)
    (try clear hi)
    refine hK.out _ _ ⟨(blk_cell BK283.out 0).trans rfl, (blk_cell BK283.out 1).trans rfl, (blk_cell BK283.out 2).trans rfl, (blk_cell BK297.out 0).trans rfl, (blk_cell BK297.out 1).trans rfl, (blk_cell BK297.out 2).trans rfl, (blk_cell BK284.out 0).trans rfl, (blk_cell BK284.out 1).trans rfl, (blk_cell BK284.out 2).trans rfl, (blk_cell BK298.out 0).trans rfl, (blk_cell BK298.out 1).trans rfl, (blk_cell BK298.out 2).trans rfl⟩ (fun hHeld => ?_)
    clear hK K
    refine norm_ (a' := ?_) ?_ ?_
    rotate_left
    ·show Act.put _ (some 15) _ = _
     simp only [Act.put, setA, setZ, setS, i64_w, i32_w]
     rfl
    refine pure_ (i := 1) (N := some 16) (v := ?_) (a' := ?_) #[tt,tt,ff,ff,ff,ff,ff,ff,ff,ff,ff,ff,ff,ff,ff,ff] rfl rfl (any_of HT_.out (by kernel_rfl)) (fun _ _ _ h => h) (Or.inl ⟨by rfl, ?_⟩) ?_ ?_
    rotate_left
    ·intro w'
     go_simp
     with_reducible rfl
    rotate_left
    ·simp only [Act.put, setA, setZ, setS, i64_w, i32_w]
     rfl
    refine pure_ (i := 2) (N := some 17) (v := ?_) (a' := ?_) #[tt,tt,tt,ff,ff,ff,ff,ff,ff,ff,ff,ff,ff,ff,ff,ff] rfl rfl (any_of HT_.out (by kernel_rfl)) (fun _ _ _ h => h) (Or.inl ⟨by rfl, ?_⟩) ?_ ?_
    rotate_left
    ·intro w'
     go_simp
     with_reducible rfl
    rotate_left
    ·simp only [Act.put, setA, setZ, setS, i64_w, i32_w]
     rfl
    refine take_ (i := 3) (N := some 18) (v := ?_) (a' := ?_) #[tt,tt,tt,tt,ff,ff,ff,ff,ff,ff,ff,ff,ff,ff,ff,ff] rfl rfl (take_ofW HT_.out HW_.out (by kernel_rfl)) (fun _ _ _ h => h) (Or.inl ⟨by rfl, ?_⟩) hHeld ?_ ?_
    rotate_left
    ·rintro w' ⟨s0, s1, s2, s3, s4, s5, s6, s7, s8, s9, s10, s11⟩
     go_simp
     with_reducible rfl
    rotate_left
    ·simp only [Act.put, setA, setZ, setS, i64_w, i32_w]
     rfl
    refine take_ (i := 5) (N := some 20) (v := ?_) (a' := ?_) #[tt,tt,tt,tt,ff,tt,ff,ff,ff,ff,ff,ff,ff,ff,ff,ff] rfl rfl (take_ofW HT_.out HW_.out (by kernel_rfl)) (fun _ _ _ h => h) (Or.inl ⟨by rfl, ?_⟩) hHeld ?_ ?_
    rotate_left
    ·rintro w' ⟨s0, s1, s2, s3, s4, s5, s6, s7, s8, s9, s10, s11⟩
     go_simp
     with_reducible rfl
    rotate_left
    ·simp only [Act.put, setA, setZ, setS, i64_w, i32_w]
     rfl
    refine one_ (i := 4) (N := some 19) #[tt,tt,tt,tt,tt,tt,ff,ff,ff,ff,ff,ff,ff,ff,ff,ff] rfl rfl (one_of HT_.out (by kernel_rfl)) (by decide) (fun K hK => ?_)
    refine goes_ Tryd.func18 (by kernel_rfl) rfl #[.agg #[.int .i64 t285, .int .i64 t286, .string t287]] (by rfl) rfl rfl (by (try simp only [List.map_toArray, List.map_cons, List.map_nil]); first | done | rfl | (simp only [List.length_drop, List.length_take]; rfl)) ?_
    with_reducible refine (cell_Good.calls k t285 t286 t287 t300 _ ?side1 A34.out).mono ?_
    (case side1 => exact TB.below hT HB.out)
    rintro e w47 ⟨rfl, hb⟩
    refine ⟨_, rfl, ?_⟩
    have n0_ := Aside0.mk (blk_below BK283.out hb)
    have n1_ := Aside0.mk (blk_below BK284.out hb)
    have n2_ := Aside0.mk (blk_below BK297.out hb)
    have n3_ := Aside0.mk (blk_below BK298.out hb)
    have n4_ := Aside0.mk (below_step HB.out hb)
    clear BK283
    clear BK284
    clear BK297
    clear BK298
    clear HB
    have BK283 := n0_
    have BK284 := n1_
    have BK297 := n2_
    have BK298 := n3_
    have HB := n4_
    clear n0_ n1_ n2_ n3_ n4_
    (try clear hb)
    (try clear hb2)
    (try clear hk)
    (try clear hi)
    refine hK.out _ _ ⟨(blk_cell BK283.out 0).trans rfl, (blk_cell BK283.out 1).trans rfl, (blk_cell BK283.out 2).trans rfl, (blk_cell BK297.out 0).trans rfl, (blk_cell BK297.out 1).trans rfl, (blk_cell BK297.out 2).trans rfl, (blk_cell BK284.out 0).trans rfl, (blk_cell BK284.out 1).trans rfl, (blk_cell BK284.out 2).trans rfl, (blk_cell BK298.out 0).trans rfl, (blk_cell BK298.out 1).trans rfl, (blk_cell BK298.out 2).trans rfl⟩ (fun hHeld => ?_)
    clear hK K
    refine norm_ (a' := ?_) ?_ ?_
    rotate_left
    ·show Act.put _ (some 19) _ = _
     simp only [Act.put, setA, setZ, setS, i64_w, i32_w]
     rfl
    refine one_ (i := 6) (N := some 21) #[tt,tt,tt,tt,tt,tt,tt,ff,ff,ff,ff,ff,ff,ff,ff,ff] rfl rfl (one_of HT_.out (by kernel_rfl)) (by decide) (fun K hK => ?_)
    refine goes_ Tryd.func22 (by kernel_rfl) rfl #[.agg #[.int .i64 t291, .int .i64 t292, .string t293]] (by rfl) rfl rfl (by (try simp only [List.map_toArray, List.map_cons, List.map_nil]); first | done | rfl | (simp only [List.length_drop, List.length_take]; rfl)) ?_
    with_reducible refine (scriberef06_Good.calls k t291 t292 t293 t301 _ ?side1 A35.out).mono ?_
    (case side1 => exact TB.below hT HB.out)
    rintro e w48 ⟨rfl, hb⟩
    refine ⟨_, rfl, ?_⟩
    have n0_ := Aside0.mk (blk_below BK283.out hb)
    have n1_ := Aside0.mk (blk_below BK284.out hb)
    have n2_ := Aside0.mk (blk_below BK297.out hb)
    have n3_ := Aside0.mk (blk_below BK298.out hb)
    have n4_ := Aside0.mk (below_step HB.out hb)
    clear BK283
    clear BK284
    clear BK297
    clear BK298
    clear HB
    have BK283 := n0_
    have BK284 := n1_
    have BK297 := n2_
    have BK298 := n3_
    have HB := n4_
    clear n0_ n1_ n2_ n3_ n4_
    (try clear hb)
    (try clear hb2)
    (try clear hk)
    (try clear hi)
    refine hK.out _ _ ⟨(blk_cell BK283.out 0).trans rfl, (blk_cell BK283.out 1).trans rfl, (blk_cell BK283.out 2).trans rfl, (blk_cell BK297.out 0).trans rfl, (blk_cell BK297.out 1).trans rfl, (blk_cell BK297.out 2).trans rfl, (blk_cell BK284.out 0).trans rfl, (blk_cell BK284.out 1).trans rfl, (blk_cell BK284.out 2).trans rfl, (blk_cell BK298.out 0).trans rfl, (blk_cell BK298.out 1).trans rfl, (blk_cell BK298.out 2).trans rfl⟩ (fun hHeld => ?_)
    clear hK K
    refine norm_ (a' := ?_) ?_ ?_
    rotate_left
    ·show Act.put _ (some 21) _ = _
     simp only [Act.put, setA, setZ, setS, i64_w, i32_w]
     rfl
    refine pure_ (i := 7) (N := some 22) (v := ?_) (a' := ?_) #[tt,tt,tt,tt,tt,tt,tt,tt,ff,ff,ff,ff,ff,ff,ff,ff] rfl rfl (any_of HT_.out (by kernel_rfl)) (fun _ _ _ h => h) (Or.inl ⟨by rfl, ?_⟩) ?_ ?_
    rotate_left
    ·intro w'
     go_simp
     with_reducible rfl
    rotate_left
    ·simp only [Act.put, setA, setZ, setS, i64_w, i32_w]
     rfl
    refine pure_ (i := 8) (N := some 23) (v := ?_) (a' := ?_) #[tt,tt,tt,tt,tt,tt,tt,tt,tt,ff,ff,ff,ff,ff,ff,ff] rfl rfl (any_of HT_.out (by kernel_rfl)) (fun _ _ _ h => h) (Or.inl ⟨by rfl, ?_⟩) ?_ ?_
    rotate_left
    ·intro w'
     go_simp
     with_reducible rfl
    rotate_left
    ·simp only [Act.put, setA, setZ, setS, i64_w, i32_w]
     rfl
    refine pure_ (i := 9) (N := some 24) (v := ?_) (a' := ?_) #[tt,tt,tt,tt,tt,tt,tt,tt,tt,tt,ff,ff,ff,ff,ff,ff] rfl rfl (any_of HT_.out (by kernel_rfl)) (fun _ _ _ h => h) (Or.inl ⟨by rfl, ?_⟩) ?_ ?_
    rotate_left
    ·intro w'
     go_simp
     with_reducible rfl
    rotate_left
    ·simp only [Act.put, setA, setZ, setS, i64_w, i32_w]
     rfl
    refine take_ (i := 10) (N := some 25) (v := ?_) (a' := ?_) #[tt,tt,tt,tt,tt,tt,tt,tt,tt,tt,tt,ff,ff,ff,ff,ff] rfl rfl (take_ofW HT_.out HW_.out (by kernel_rfl)) (fun _ _ _ h => h) (Or.inl ⟨by rfl, ?_⟩) hHeld ?_ ?_
    rotate_left
    ·rintro w' ⟨s0, s1, s2, s3, s4, s5, s6, s7, s8, s9, s10, s11⟩
     go_simp
     with_reducible rfl
    rotate_left
    ·simp only [Act.put, setA, setZ, setS, i64_w, i32_w]
     rfl
    refine take_ (i := 12) (N := some 27) (v := ?_) (a' := ?_) #[tt,tt,tt,tt,tt,tt,tt,tt,tt,tt,tt,ff,tt,ff,ff,ff] rfl rfl (take_ofW HT_.out HW_.out (by kernel_rfl)) (fun _ _ _ h => h) (Or.inl ⟨by rfl, ?_⟩) hHeld ?_ ?_
    rotate_left
    ·rintro w' ⟨s0, s1, s2, s3, s4, s5, s6, s7, s8, s9, s10, s11⟩
     go_simp
     with_reducible rfl
    rotate_left
    ·simp only [Act.put, setA, setZ, setS, i64_w, i32_w]
     rfl
    refine one_ (i := 11) (N := some 26) #[tt,tt,tt,tt,tt,tt,tt,tt,tt,tt,tt,tt,tt,ff,ff,ff] rfl rfl (one_of HT_.out (by kernel_rfl)) (by decide) (fun K hK => ?_)
    refine goes_ Tryd.func18 (by kernel_rfl) rfl #[.agg #[.int .i64 t288, .int .i64 t289, .string t290]] (by rfl) rfl rfl (by (try simp only [List.map_toArray, List.map_cons, List.map_nil]); first | done | rfl | (simp only [List.length_drop, List.length_take]; rfl)) ?_
    with_reducible refine (cell_Good.calls k t288 t289 t290 t302 _ ?side1 A42.out).mono ?_
    (case side1 => exact TB.below hT HB.out)
    rintro e w49 ⟨rfl, hb⟩
    refine ⟨_, rfl, ?_⟩
    have n0_ := Aside0.mk (blk_below BK283.out hb)
    have n1_ := Aside0.mk (blk_below BK284.out hb)
    have n2_ := Aside0.mk (blk_below BK297.out hb)
    have n3_ := Aside0.mk (blk_below BK298.out hb)
    have n4_ := Aside0.mk (below_step HB.out hb)
    clear BK283
    clear BK284
    clear BK297
    clear BK298
    clear HB
    have BK283 := n0_
    have BK284 := n1_
    have BK297 := n2_
    have BK298 := n3_
    have HB := n4_
    clear n0_ n1_ n2_ n3_ n4_
    (try clear hb)
    (try clear hb2)
    (try clear hk)
    (try clear hi)
    refine hK.out _ _ ⟨(blk_cell BK283.out 0).trans rfl, (blk_cell BK283.out 1).trans rfl, (blk_cell BK283.out 2).trans rfl, (blk_cell BK297.out 0).trans rfl, (blk_cell BK297.out 1).trans rfl, (blk_cell BK297.out 2).trans rfl, (blk_cell BK284.out 0).trans rfl, (blk_cell BK284.out 1).trans rfl, (blk_cell BK284.out 2).trans rfl, (blk_cell BK298.out 0).trans rfl, (blk_cell BK298.out 1).trans rfl, (blk_cell BK298.out 2).trans rfl⟩ (fun hHeld => ?_)
    clear hK K
    refine norm_ (a' := ?_) ?_ ?_
    rotate_left
    ·show Act.put _ (some 26) _ = _
     simp only [Act.put, setA, setZ, setS, i64_w, i32_w]
     rfl
    refine one_ (i := 13) (N := some 28) #[tt,tt,tt,tt,tt,tt,tt,tt,tt,tt,tt,tt,tt,tt,ff,ff] rfl rfl (one_of HT_.out (by kernel_rfl)) (by decide) (fun K hK => ?_)
    refine goes_ Tryd.func22 (by kernel_rfl) rfl #[.agg #[.int .i64 t294, .int .i64 t295, .string t296]] (by rfl) rfl rfl (by (try simp only [List.map_toArray, List.map_cons, List.map_nil]); first | done | rfl | (simp only [List.length_drop, List.length_take]; rfl)) ?_
    with_reducible refine (scriberef06_Good.calls k t294 t295 t296 t303 _ ?side1 A43.out).mono ?_
    (case side1 => exact TB.below hT HB.out)
    rintro e w50 ⟨rfl, hb⟩
    refine ⟨_, rfl, ?_⟩
    have n0_ := Aside0.mk (blk_below BK283.out hb)
    have n1_ := Aside0.mk (blk_below BK284.out hb)
    have n2_ := Aside0.mk (blk_below BK297.out hb)
    have n3_ := Aside0.mk (blk_below BK298.out hb)
    have n4_ := Aside0.mk (below_step HB.out hb)
    clear BK283
    clear BK284
    clear BK297
    clear BK298
    clear HB
    have BK283 := n0_
    have BK284 := n1_
    have BK297 := n2_
    have BK298 := n3_
    have HB := n4_
    clear n0_ n1_ n2_ n3_ n4_
    (try clear hb)
    (try clear hb2)
    (try clear hk)
    (try clear hi)
    refine hK.out _ _ ⟨(blk_cell BK283.out 0).trans rfl, (blk_cell BK283.out 1).trans rfl, (blk_cell BK283.out 2).trans rfl, (blk_cell BK297.out 0).trans rfl, (blk_cell BK297.out 1).trans rfl, (blk_cell BK297.out 2).trans rfl, (blk_cell BK284.out 0).trans rfl, (blk_cell BK284.out 1).trans rfl, (blk_cell BK284.out 2).trans rfl, (blk_cell BK298.out 0).trans rfl, (blk_cell BK298.out 1).trans rfl, (blk_cell BK298.out 2).trans rfl⟩ (fun hHeld => ?_)
    clear hK K
    refine norm_ (a' := ?_) ?_ ?_
    rotate_left
    ·show Act.put _ (some 28) _ = _
     simp only [Act.put, setA, setZ, setS, i64_w, i32_w]
     rfl
    refine pure_ (i := 14) (N := some 29) (v := ?_) (a' := ?_) #[tt,tt,tt,tt,tt,tt,tt,tt,tt,tt,tt,tt,tt,tt,tt,ff] rfl rfl (any_of HT_.out (by kernel_rfl)) (fun _ _ _ h => h) (Or.inl ⟨by rfl, ?_⟩) ?_ ?_
    rotate_left
    ·intro w'
     go_simp
     with_reducible rfl
    rotate_left
    ·simp only [Act.put, setA, setZ, setS, i64_w, i32_w]
     rfl
    refine pure_ (i := 15) (N := some 30) (v := ?_) (a' := ?_) #[tt,tt,tt,tt,tt,tt,tt,tt,tt,tt,tt,tt,tt,tt,tt,tt] rfl rfl (any_of HT_.out (by kernel_rfl)) (fun _ _ _ h => h) (Or.inl ⟨by rfl, ?_⟩) ?_ ?_
    rotate_left
    ·intro w'
     go_simp
     with_reducible rfl
    rotate_left
    ·simp only [Act.put, setA, setZ, setS, i64_w, i32_w]
     rfl
    refine done_ (done_of HT_.out (by kernel_rfl)) ?_
    try go_wp2
    go_meet
    case rel => exact ⟨_, ((t302 != t303)), (by first | rfl | (simp; done) | (simp [*]; done) | (simp; unfold wrap64; omega)), H', ⟨by first | omega | exact Nat.le_refl _⟩, ⟨by (with_reducible repeat (first | refine blk_drewN ?_ _ | refine blk_drew ?_ | refine blk_alloc ?_ _)); exact BK283.out⟩, ⟨by (with_reducible repeat (first | refine blk_drewN ?_ _ | refine blk_drew ?_ | refine blk_alloc ?_ _)); exact BK284.out⟩, ⟨by (with_reducible repeat (first | refine blk_drewN ?_ _ | refine blk_drew ?_ | refine blk_alloc ?_ _)); exact BK297.out⟩, ⟨by (with_reducible repeat (first | refine blk_drewN ?_ _ | refine blk_drew ?_ | refine blk_alloc ?_ _)); exact BK298.out⟩, ⟨by repeat (first | (with_reducible first | exact HB.out | apply below_alloc | apply pw_below_drewN | apply below_drew1 | refine below_set ?_ GE283.out | refine below_set ?_ GE284.out | refine below_set ?_ GE297.out | refine below_set ?_ GE298.out) | exact HB.out)⟩⟩
  ·replace c33 := Bool.eq_false_iff.mpr c33
   subst c33
   have H1 : (scribelaw06_CellIs.j0 k true t285 t286 t287 t288 t289 t290 t291 t292 t293 t294 t295 t296) = some r := by rw [if_neg (show ¬ (false = true) by decide)] at H; exact H
   clear H
   have H := H1
   clear H1
   have H' := Aside0.mk H
   clear H
   try go_wp2
   have n0_ : Aside0 (((((((w25.setCell ⟨gb297, 0, none⟩ (.int .i64 t291)).setCell ⟨gb297, 1, none⟩ (.int .i64 t292)).setCell ⟨gb297, 2, none⟩ (.string t293)).setCell ⟨gb298, 0, none⟩ (.int .i64 t294)).setCell ⟨gb298, 1, none⟩ (.int .i64 t295)).setCell ⟨gb298, 2, none⟩ (.string t296)).heap[gb283]? = some (.cells #[.int .i64 t285, .int .i64 t286, .string t287] 27 (0, 0))) := ⟨by (with_reducible repeat (first | refine blk_drewN ?_ _ | refine blk_drew ?_ | refine blk_alloc ?_ _)); refine blk_far ?_ NB283_298.out _; (with_reducible repeat (first | refine blk_drewN ?_ _ | refine blk_drew ?_ | refine blk_alloc ?_ _)); refine blk_far ?_ NB283_298.out _; (with_reducible repeat (first | refine blk_drewN ?_ _ | refine blk_drew ?_ | refine blk_alloc ?_ _)); refine blk_far ?_ NB283_298.out _; (with_reducible repeat (first | refine blk_drewN ?_ _ | refine blk_drew ?_ | refine blk_alloc ?_ _)); refine blk_far ?_ NB283_297.out _; (with_reducible repeat (first | refine blk_drewN ?_ _ | refine blk_drew ?_ | refine blk_alloc ?_ _)); refine blk_far ?_ NB283_297.out _; (with_reducible repeat (first | refine blk_drewN ?_ _ | refine blk_drew ?_ | refine blk_alloc ?_ _)); refine blk_far ?_ NB283_297.out _; (with_reducible repeat (first | refine blk_drewN ?_ _ | refine blk_drew ?_ | refine blk_alloc ?_ _)); exact BK283.out⟩
   have n1_ : Aside0 (((((((w25.setCell ⟨gb297, 0, none⟩ (.int .i64 t291)).setCell ⟨gb297, 1, none⟩ (.int .i64 t292)).setCell ⟨gb297, 2, none⟩ (.string t293)).setCell ⟨gb298, 0, none⟩ (.int .i64 t294)).setCell ⟨gb298, 1, none⟩ (.int .i64 t295)).setCell ⟨gb298, 2, none⟩ (.string t296)).heap[gb284]? = some (.cells #[.int .i64 t288, .int .i64 t289, .string t290] 27 (0, 0))) := ⟨by (with_reducible repeat (first | refine blk_drewN ?_ _ | refine blk_drew ?_ | refine blk_alloc ?_ _)); refine blk_far ?_ NB284_298.out _; (with_reducible repeat (first | refine blk_drewN ?_ _ | refine blk_drew ?_ | refine blk_alloc ?_ _)); refine blk_far ?_ NB284_298.out _; (with_reducible repeat (first | refine blk_drewN ?_ _ | refine blk_drew ?_ | refine blk_alloc ?_ _)); refine blk_far ?_ NB284_298.out _; (with_reducible repeat (first | refine blk_drewN ?_ _ | refine blk_drew ?_ | refine blk_alloc ?_ _)); refine blk_far ?_ NB284_297.out _; (with_reducible repeat (first | refine blk_drewN ?_ _ | refine blk_drew ?_ | refine blk_alloc ?_ _)); refine blk_far ?_ NB284_297.out _; (with_reducible repeat (first | refine blk_drewN ?_ _ | refine blk_drew ?_ | refine blk_alloc ?_ _)); refine blk_far ?_ NB284_297.out _; (with_reducible repeat (first | refine blk_drewN ?_ _ | refine blk_drew ?_ | refine blk_alloc ?_ _)); exact BK284.out⟩
   have n2_ : Aside0 (((((((w25.setCell ⟨gb297, 0, none⟩ (.int .i64 t291)).setCell ⟨gb297, 1, none⟩ (.int .i64 t292)).setCell ⟨gb297, 2, none⟩ (.string t293)).setCell ⟨gb298, 0, none⟩ (.int .i64 t294)).setCell ⟨gb298, 1, none⟩ (.int .i64 t295)).setCell ⟨gb298, 2, none⟩ (.string t296)).heap[gb297]? = some (.cells #[.int .i64 t291, .int .i64 t292, .string t293] 38 (0, 0))) := ⟨by (with_reducible repeat (first | refine blk_drewN ?_ _ | refine blk_drew ?_ | refine blk_alloc ?_ _)); refine blk_far ?_ NB297_298.out _; (with_reducible repeat (first | refine blk_drewN ?_ _ | refine blk_drew ?_ | refine blk_alloc ?_ _)); refine blk_far ?_ NB297_298.out _; (with_reducible repeat (first | refine blk_drewN ?_ _ | refine blk_drew ?_ | refine blk_alloc ?_ _)); refine blk_far ?_ NB297_298.out _; (with_reducible repeat (first | refine blk_drewN ?_ _ | refine blk_drew ?_ | refine blk_alloc ?_ _)); refine blk_put (cs := #[.int .i64 t291, .int .i64 t292, .string (⟨#[]⟩ : ByteArray)]) ?_ 2 _ rfl; (with_reducible repeat (first | refine blk_drewN ?_ _ | refine blk_drew ?_ | refine blk_alloc ?_ _)); refine blk_put (cs := #[.int .i64 t291, .int .i64 0, .string (⟨#[]⟩ : ByteArray)]) ?_ 1 _ rfl; (with_reducible repeat (first | refine blk_drewN ?_ _ | refine blk_drew ?_ | refine blk_alloc ?_ _)); refine blk_put (cs := #[.int .i64 0, .int .i64 0, .string (⟨#[]⟩ : ByteArray)]) ?_ 0 _ rfl; (with_reducible repeat (first | refine blk_drewN ?_ _ | refine blk_drew ?_ | refine blk_alloc ?_ _)); exact BK297.out⟩
   have n3_ : Aside0 (((((((w25.setCell ⟨gb297, 0, none⟩ (.int .i64 t291)).setCell ⟨gb297, 1, none⟩ (.int .i64 t292)).setCell ⟨gb297, 2, none⟩ (.string t293)).setCell ⟨gb298, 0, none⟩ (.int .i64 t294)).setCell ⟨gb298, 1, none⟩ (.int .i64 t295)).setCell ⟨gb298, 2, none⟩ (.string t296)).heap[gb298]? = some (.cells #[.int .i64 t294, .int .i64 t295, .string t296] 38 (0, 0))) := ⟨by (with_reducible repeat (first | refine blk_drewN ?_ _ | refine blk_drew ?_ | refine blk_alloc ?_ _)); refine blk_put (cs := #[.int .i64 t294, .int .i64 t295, .string (⟨#[]⟩ : ByteArray)]) ?_ 2 _ rfl; (with_reducible repeat (first | refine blk_drewN ?_ _ | refine blk_drew ?_ | refine blk_alloc ?_ _)); refine blk_put (cs := #[.int .i64 t294, .int .i64 0, .string (⟨#[]⟩ : ByteArray)]) ?_ 1 _ rfl; (with_reducible repeat (first | refine blk_drewN ?_ _ | refine blk_drew ?_ | refine blk_alloc ?_ _)); refine blk_put (cs := #[.int .i64 0, .int .i64 0, .string (⟨#[]⟩ : ByteArray)]) ?_ 0 _ rfl; (with_reducible repeat (first | refine blk_drewN ?_ _ | refine blk_drew ?_ | refine blk_alloc ?_ _)); refine blk_far ?_ NB298_297.out _; (with_reducible repeat (first | refine blk_drewN ?_ _ | refine blk_drew ?_ | refine blk_alloc ?_ _)); refine blk_far ?_ NB298_297.out _; (with_reducible repeat (first | refine blk_drewN ?_ _ | refine blk_drew ?_ | refine blk_alloc ?_ _)); refine blk_far ?_ NB298_297.out _; (with_reducible repeat (first | refine blk_drewN ?_ _ | refine blk_drew ?_ | refine blk_alloc ?_ _)); exact BK298.out⟩
   have n4_ : Aside0 (Below w.heap.size w ((((((w25.setCell ⟨gb297, 0, none⟩ (.int .i64 t291)).setCell ⟨gb297, 1, none⟩ (.int .i64 t292)).setCell ⟨gb297, 2, none⟩ (.string t293)).setCell ⟨gb298, 0, none⟩ (.int .i64 t294)).setCell ⟨gb298, 1, none⟩ (.int .i64 t295)).setCell ⟨gb298, 2, none⟩ (.string t296))) := ⟨by repeat (first | (with_reducible first | exact HB.out | apply below_alloc | apply pw_below_drewN | apply below_drew1 | refine below_set ?_ GE283.out | refine below_set ?_ GE284.out | refine below_set ?_ GE297.out | refine below_set ?_ GE298.out) | exact HB.out)⟩
   (try clear BK283)
   (try clear BK284)
   (try clear BK297)
   (try clear BK298)
   (try clear HB)
   generalize ((((((w25.setCell ⟨gb297, 0, none⟩ (.int .i64 t291)).setCell ⟨gb297, 1, none⟩ (.int .i64 t292)).setCell ⟨gb297, 2, none⟩ (.string t293)).setCell ⟨gb298, 0, none⟩ (.int .i64 t294)).setCell ⟨gb298, 1, none⟩ (.int .i64 t295)).setCell ⟨gb298, 2, none⟩ (.string t296)) = w51 at n0_ n1_ n2_ n3_ n4_ ⊢
   have BK283 := n0_
   have BK284 := n1_
   have BK297 := n2_
   have BK298 := n3_
   have HB := n4_
   clear n0_ n1_ n2_ n3_ n4_
   have n0_ := Aside0.mk (blk_drew BK283.out)
   have n1_ := Aside0.mk (blk_drew BK284.out)
   have n2_ := Aside0.mk (blk_drew BK297.out)
   have n3_ := Aside0.mk (blk_drew BK298.out)
   have n4_ := Aside0.mk (below_drew1 HB.out)
   clear BK283
   clear BK284
   clear BK297
   clear BK298
   clear HB
   have BK283 := n0_
   have BK284 := n1_
   have BK297 := n2_
   have BK298 := n3_
   have HB := n4_
   clear n0_ n1_ n2_ n3_ n4_
   refine start_ (n := 16) (S := fun w' => True) (ds := []) #[ff,ff,ff,ff,ff,ff,ff,ff,ff,ff,ff,ff,ff,ff,ff,ff] (by kernel_rfl) rfl rfl trivial (fun hHeld => ?_); refine with_tabW scribelaw06_CellIs.tab3 scribelaw06_CellIs.bits3 (fun HT_ HW_ => ?_)
   generalize w51.drew = w52 at BK283 BK284 BK297 BK298 HB hHeld ⊢
   refine one_ (i := 0) (N := some 15) #[tt,ff,ff,ff,ff,ff,ff,ff,ff,ff,ff,ff,ff,ff,ff,ff] rfl rfl (one_of HT_.out (by kernel_rfl)) (by decide) (fun K hK => ?_)
   refine goes_ Tryd.func11 (by kernel_rfl) rfl #[] (by rfl) rfl rfl (by (try simp only [List.map_toArray, List.map_cons, List.map_nil]); first | done | rfl | (simp only [List.length_drop, List.length_take]; rfl)) ?_
   with_reducible refine (scribelaw06_awake.calls k  false _ ?side1 A32.out).mono ?_
   (case side1 => exact TB.below hT HB.out)
   rintro e w53 ⟨rfl, hb⟩
   refine ⟨_, rfl, ?_⟩
   have n0_ := Aside0.mk (blk_below BK283.out hb)
   have n1_ := Aside0.mk (blk_below BK284.out hb)
   have n2_ := Aside0.mk (blk_below BK297.out hb)
   have n3_ := Aside0.mk (blk_below BK298.out hb)
   have n4_ := Aside0.mk (below_step HB.out hb)
   clear BK283
   clear BK284
   clear BK297
   clear BK298
   clear HB
   have BK283 := n0_
   have BK284 := n1_
   have BK297 := n2_
   have BK298 := n3_
   have HB := n4_
   clear n0_ n1_ n2_ n3_ n4_
   (try clear hb)
   (try clear hb2)
   (try clear hk)
   (try clear hi)
   refine hK.out _ _ trivial (fun hHeld => ?_)
   clear hK K
   refine norm_ (a' := ?_) ?_ ?_
   rotate_left
   ·show Act.put _ (some 15) _ = _
    simp only [Act.put, setA, setZ, setS, i64_w, i32_w]
    rfl
   refine pure_ (i := 1) (N := some 16) (v := ?_) (a' := ?_) #[tt,tt,ff,ff,ff,ff,ff,ff,ff,ff,ff,ff,ff,ff,ff,ff] rfl rfl (any_of HT_.out (by kernel_rfl)) (fun _ _ _ h => h) (Or.inl ⟨by rfl, ?_⟩) ?_ ?_
   rotate_left
   ·intro w'
    go_simp
    with_reducible rfl
   rotate_left
   ·simp only [Act.put, setA, setZ, setS, i64_w, i32_w]
    rfl
   refine pure_ (i := 2) (N := some 17) (v := ?_) (a' := ?_) #[tt,tt,tt,ff,ff,ff,ff,ff,ff,ff,ff,ff,ff,ff,ff,ff] rfl rfl (any_of HT_.out (by kernel_rfl)) (fun _ _ _ h => h) (Or.inl ⟨by rfl, ?_⟩) ?_ ?_
   rotate_left
   ·intro w'
    go_simp
    with_reducible rfl
   rotate_left
   ·simp only [Act.put, setA, setZ, setS, i64_w, i32_w]
    rfl
   refine pure_ (i := 3) (N := some 18) (v := undef) (a' := ?_) #[tt,tt,tt,tt,ff,ff,ff,ff,ff,ff,ff,ff,ff,ff,ff,ff] rfl rfl (any_of HT_.out (by kernel_rfl)) (fun _ _ _ h => h) (Or.inr ⟨by rfl, rfl⟩) ?_ ?_
   rotate_left
   ·simp only [Act.put, setA, setZ, setS, i64_w, i32_w]
    rfl
   refine pure_ (i := 4) (N := some 19) (v := undef) (a' := ?_) #[tt,tt,tt,tt,tt,ff,ff,ff,ff,ff,ff,ff,ff,ff,ff,ff] rfl rfl (any_of HT_.out (by kernel_rfl)) (fun _ _ _ h => h) (Or.inr ⟨by rfl, rfl⟩) ?_ ?_
   rotate_left
   ·simp only [Act.put, setA, setZ, setS, i64_w, i32_w]
    rfl
   refine pure_ (i := 5) (N := some 20) (v := undef) (a' := ?_) #[tt,tt,tt,tt,tt,tt,ff,ff,ff,ff,ff,ff,ff,ff,ff,ff] rfl rfl (any_of HT_.out (by kernel_rfl)) (fun _ _ _ h => h) (Or.inr ⟨by rfl, rfl⟩) ?_ ?_
   rotate_left
   ·simp only [Act.put, setA, setZ, setS, i64_w, i32_w]
    rfl
   refine pure_ (i := 6) (N := some 21) (v := undef) (a' := ?_) #[tt,tt,tt,tt,tt,tt,tt,ff,ff,ff,ff,ff,ff,ff,ff,ff] rfl rfl (any_of HT_.out (by kernel_rfl)) (fun _ _ _ h => h) (Or.inr ⟨by rfl, rfl⟩) ?_ ?_
   rotate_left
   ·simp only [Act.put, setA, setZ, setS, i64_w, i32_w]
    rfl
   refine pure_ (i := 7) (N := some 22) (v := undef) (a' := ?_) #[tt,tt,tt,tt,tt,tt,tt,tt,ff,ff,ff,ff,ff,ff,ff,ff] rfl rfl (any_of HT_.out (by kernel_rfl)) (fun _ _ _ h => h) (Or.inr ⟨by rfl, rfl⟩) ?_ ?_
   rotate_left
   ·simp only [Act.put, setA, setZ, setS, i64_w, i32_w]
    rfl
   refine pure_ (i := 8) (N := some 23) (v := ?_) (a' := ?_) #[tt,tt,tt,tt,tt,tt,tt,tt,tt,ff,ff,ff,ff,ff,ff,ff] rfl rfl (any_of HT_.out (by kernel_rfl)) (fun _ _ _ h => h) (Or.inl ⟨by rfl, ?_⟩) ?_ ?_
   rotate_left
   ·intro w'
    go_simp
    with_reducible rfl
   rotate_left
   ·simp only [Act.put, setA, setZ, setS, i64_w, i32_w]
    rfl
   refine pure_ (i := 9) (N := some 24) (v := ?_) (a' := ?_) #[tt,tt,tt,tt,tt,tt,tt,tt,tt,tt,ff,ff,ff,ff,ff,ff] rfl rfl (any_of HT_.out (by kernel_rfl)) (fun _ _ _ h => h) (Or.inl ⟨by rfl, ?_⟩) ?_ ?_
   rotate_left
   ·intro w'
    go_simp
    with_reducible rfl
   rotate_left
   ·simp only [Act.put, setA, setZ, setS, i64_w, i32_w]
    rfl
   refine pure_ (i := 10) (N := some 25) (v := undef) (a' := ?_) #[tt,tt,tt,tt,tt,tt,tt,tt,tt,tt,tt,ff,ff,ff,ff,ff] rfl rfl (any_of HT_.out (by kernel_rfl)) (fun _ _ _ h => h) (Or.inr ⟨by rfl, rfl⟩) ?_ ?_
   rotate_left
   ·simp only [Act.put, setA, setZ, setS, i64_w, i32_w]
    rfl
   refine pure_ (i := 11) (N := some 26) (v := undef) (a' := ?_) #[tt,tt,tt,tt,tt,tt,tt,tt,tt,tt,tt,tt,ff,ff,ff,ff] rfl rfl (any_of HT_.out (by kernel_rfl)) (fun _ _ _ h => h) (Or.inr ⟨by rfl, rfl⟩) ?_ ?_
   rotate_left
   ·simp only [Act.put, setA, setZ, setS, i64_w, i32_w]
    rfl
   refine pure_ (i := 12) (N := some 27) (v := undef) (a' := ?_) #[tt,tt,tt,tt,tt,tt,tt,tt,tt,tt,tt,tt,tt,ff,ff,ff] rfl rfl (any_of HT_.out (by kernel_rfl)) (fun _ _ _ h => h) (Or.inr ⟨by rfl, rfl⟩) ?_ ?_
   rotate_left
   ·simp only [Act.put, setA, setZ, setS, i64_w, i32_w]
    rfl
   refine pure_ (i := 13) (N := some 28) (v := undef) (a' := ?_) #[tt,tt,tt,tt,tt,tt,tt,tt,tt,tt,tt,tt,tt,tt,ff,ff] rfl rfl (any_of HT_.out (by kernel_rfl)) (fun _ _ _ h => h) (Or.inr ⟨by rfl, rfl⟩) ?_ ?_
   rotate_left
   ·simp only [Act.put, setA, setZ, setS, i64_w, i32_w]
    rfl
   refine pure_ (i := 14) (N := some 29) (v := undef) (a' := ?_) #[tt,tt,tt,tt,tt,tt,tt,tt,tt,tt,tt,tt,tt,tt,tt,ff] rfl rfl (any_of HT_.out (by kernel_rfl)) (fun _ _ _ h => h) (Or.inr ⟨by rfl, rfl⟩) ?_ ?_
   rotate_left
   ·simp only [Act.put, setA, setZ, setS, i64_w, i32_w]
    rfl
   refine pure_ (i := 15) (N := some 30) (v := ?_) (a' := ?_) #[tt,tt,tt,tt,tt,tt,tt,tt,tt,tt,tt,tt,tt,tt,tt,tt] rfl rfl (any_of HT_.out (by kernel_rfl)) (fun _ _ _ h => h) (Or.inl ⟨by rfl, ?_⟩) ?_ ?_
   rotate_left
   ·intro w'
    go_simp
    with_reducible rfl
   rotate_left
   ·simp only [Act.put, setA, setZ, setS, i64_w, i32_w]
    rfl
   refine done_ (done_of HT_.out (by kernel_rfl)) ?_
   try go_wp2
   go_meet
   case rel => exact ⟨_, (true), (by first | rfl | (simp; done) | (simp [*]; done) | (simp; unfold wrap64; omega)), H', ⟨by first | omega | exact Nat.le_refl _⟩, ⟨by (with_reducible repeat (first | refine blk_drewN ?_ _ | refine blk_drew ?_ | refine blk_alloc ?_ _)); exact BK283.out⟩, ⟨by (with_reducible repeat (first | refine blk_drewN ?_ _ | refine blk_drew ?_ | refine blk_alloc ?_ _)); exact BK284.out⟩, ⟨by (with_reducible repeat (first | refine blk_drewN ?_ _ | refine blk_drew ?_ | refine blk_alloc ?_ _)); exact BK297.out⟩, ⟨by (with_reducible repeat (first | refine blk_drewN ?_ _ | refine blk_drew ?_ | refine blk_alloc ?_ _)); exact BK298.out⟩, ⟨by repeat (first | (with_reducible first | exact HB.out | apply below_alloc | apply pw_below_drewN | apply below_drew1 | refine below_set ?_ GE283.out | refine below_set ?_ GE284.out | refine below_set ?_ GE297.out | refine below_set ?_ GE298.out) | exact HB.out)⟩⟩
 case rest =>
  clear HC7
  try clear c1
  try clear c2
  try clear p2
  try clear c3
  try clear p6
  try clear c11
  try clear c18
  try clear c22
  try clear c33
  try clear c36
  try clear c36b0
  try clear c36b1
  try clear c36b2
  obtain ⟨kq, x30_6, rfl, HA, HJ6, BK283, BK284, BK297, BK298, HB⟩ := hcut
  cases kq with
  | zero => exact absurd HA.out (by simp [scribelaw06_CellIs.j0])
  | succ kj6 =>
   have H := HA.out
   clear HA
   simp only [scribelaw06_CellIs.j0] at H
   by_cases c54 : x30_6 = true
   ·subst c54
    have H1 : (some false) = some r := by rw [if_pos rfl] at H; exact H
    clear H
    have H := H1
    clear H1
    obtain rfl := Option.some.inj H
    go_wp2
    go_ret
    exact ⟨by first | rfl | (simp [errW_none, errW_some] <;> rfl) | (simp [errW_none, errW_some] <;> first | rfl | exact isEmpty_bne _) | (simp [*, errW_none, errW_some] <;> rfl), by repeat (first | (with_reducible first | exact HB.out | apply below_alloc | apply pw_below_drewN | apply below_drew1 | refine below_set ?_ GE283.out | refine below_set ?_ GE284.out | refine below_set ?_ GE297.out | refine below_set ?_ GE298.out) | exact HB.out)⟩
   ·replace c54 := Bool.eq_false_iff.mpr c54
    subst c54
    have H1 : ((scriberef06_Good.f kj6 t291 t292 t293).bind fun t304 => (if t304 = true then ((scriberef06_Good.f kj6 t294 t295 t296).bind fun t305 => (scribelaw06_CellIs.j1 kj6 (!t305) t285 t286 t287 t288 t289 t290 t291 t292 t293 t294 t295 t296)) else (scribelaw06_CellIs.j1 kj6 true t285 t286 t287 t288 t289 t290 t291 t292 t293 t294 t295 t296))) = some r := by rw [if_neg (show ¬ (false = true) by decide)] at H; exact H
    clear H
    have H := H1
    clear H1
    have HC55 := Aside0.mk H
    clear H
    go_upto_region 5 with (fail)
    go_cut [38] (fun v38 wc => ∃ (kq : Nat) (x38_54 : Bool), v38 = .bool x38_54 ∧ Aside0 (scribelaw06_CellIs.j1 kq x38_54 t285 t286 t287 t288 t289 t290 t291 t292 t293 t294 t295 t296 = some r) ∧ Aside0 (kq ≤ kj6) ∧ Aside0 (wc.heap[gb283]? = some (.cells #[.int .i64 t285, .int .i64 t286, .string t287] 27 (0, 0))) ∧ Aside0 (wc.heap[gb284]? = some (.cells #[.int .i64 t288, .int .i64 t289, .string t290] 27 (0, 0))) ∧ Aside0 (wc.heap[gb297]? = some (.cells #[.int .i64 t291, .int .i64 t292, .string t293] 38 (0, 0))) ∧ Aside0 (wc.heap[gb298]? = some (.cells #[.int .i64 t294, .int .i64 t295, .string t296] 38 (0, 0))) ∧ Aside0 (Below w.heap.size w wc))
    case first =>
     have H := HC55.out
     clear HC55
     replace H := Option.bind_eq_some_iff.mp H
     obtain ⟨t304, A560, H⟩ := H
     replace H : (if t304 = true then ((scriberef06_Good.f kj6 t294 t295 t296).bind fun t305 => (scribelaw06_CellIs.j1 kj6 (!t305) t285 t286 t287 t288 t289 t290 t291 t292 t293 t294 t295 t296)) else (scribelaw06_CellIs.j1 kj6 true t285 t286 t287 t288 t289 t290 t291 t292 t293 t294 t295 t296)) = some r := H
     have A56 := Aside0.mk A560
     clear A560
     by_cases c57 : t304 = true
     ·subst c57
      have H1 : ((scriberef06_Good.f kj6 t294 t295 t296).bind fun t305 => (scribelaw06_CellIs.j1 kj6 (!t305) t285 t286 t287 t288 t289 t290 t291 t292 t293 t294 t295 t296)) = some r := by rw [if_pos rfl] at H; exact H
      clear H
      have H := H1
      clear H1
      replace H := Option.bind_eq_some_iff.mp H
      obtain ⟨t305, A580, H⟩ := H
      replace H : (scribelaw06_CellIs.j1 kj6 (!t305) t285 t286 t287 t288 t289 t290 t291 t292 t293 t294 t295 t296) = some r := H
      have A58 := Aside0.mk A580
      clear A580
      have H' := Aside0.mk H
      clear H
      have hnb59 := NB297_283.out
      have hnc59 := NB283_297.out
      have hnb60 := NB297_284.out
      have hnc60 := NB284_297.out
      have hnb61 := NB297_298.out
      have hnc61 := NB298_297.out
      have hcz62_0 : wc.cell? ⟨gb297, 0, none⟩ = some (.int .i64 t291) := (blk_cell BK297.out 0).trans rfl
      have hcz62_1 : wc.cell? ⟨gb297, 1, none⟩ = some (.int .i64 t292) := (blk_cell BK297.out 1).trans rfl
      have hcz62_2 : wc.cell? ⟨gb297, 2, none⟩ = some (.string t293) := (blk_cell BK297.out 2).trans rfl
      have hfz62_0 := blk_frozen BK297.out 0
      have hfz62_1 := blk_frozen BK297.out 1
      have hfz62_2 := blk_frozen BK297.out 2
      go_wp2_with (first | ((with_reducible refine gate_callee (f := 22) rfl ?_); refine goesL_ (some 32) rfl rfl Tryd.func22 (by kernel_rfl) rfl #[.agg #[.int .i64 t291, .int .i64 t292, .string t293]] rfl (by (try simp only [List.map_toArray, List.map_cons, List.map_nil]); first | done | rfl | (simp only [List.length_drop, List.length_take]; rfl)) ?_; (with_reducible refine (scriberef06_Good.calls kj6 t291 t292 t293 true _ ?side1 A56.out).mono ?_); (case side1 => exact TB.below hT (by repeat (first | (with_reducible first | exact HB.out | apply below_alloc | apply pw_below_drewN | apply below_drew1 | refine below_set ?_ GE283.out | refine below_set ?_ GE284.out | refine below_set ?_ GE297.out | refine below_set ?_ GE298.out) | exact HB.out))); rintro e w63 ⟨rfl, hb⟩; refine ⟨_, rfl, ?_⟩; have n0_ := Aside0.mk (blk_below (g := gb283) (o := .cells #[.int .i64 t285, .int .i64 t286, .string t287] 27 (0, 0)) (by (with_reducible repeat (first | refine blk_drewN ?_ _ | refine blk_drew ?_ | refine blk_alloc ?_ _)); exact BK283.out) hb); have n1_ := Aside0.mk (blk_below (g := gb284) (o := .cells #[.int .i64 t288, .int .i64 t289, .string t290] 27 (0, 0)) (by (with_reducible repeat (first | refine blk_drewN ?_ _ | refine blk_drew ?_ | refine blk_alloc ?_ _)); exact BK284.out) hb); have n2_ := Aside0.mk (blk_below (g := gb297) (o := .cells #[.int .i64 t291, .int .i64 t292, .string t293] 38 (0, 0)) (by (with_reducible repeat (first | refine blk_drewN ?_ _ | refine blk_drew ?_ | refine blk_alloc ?_ _)); exact BK297.out) hb); have n3_ := Aside0.mk (blk_below (g := gb298) (o := .cells #[.int .i64 t294, .int .i64 t295, .string t296] 38 (0, 0)) (by (with_reducible repeat (first | refine blk_drewN ?_ _ | refine blk_drew ?_ | refine blk_alloc ?_ _)); exact BK298.out) hb); have n4_ := Aside0.mk (below_step (by repeat (first | (with_reducible first | exact HB.out | apply below_alloc | apply pw_below_drewN | apply below_drew1 | refine below_set ?_ GE283.out | refine below_set ?_ GE284.out | refine below_set ?_ GE297.out | refine below_set ?_ GE298.out) | exact HB.out)) hb); clear BK283; clear BK284; clear BK297; clear BK298; clear HB; have BK283 := n0_; have BK284 := n1_; have BK297 := n2_; have BK298 := n3_; have HB := n4_; clear n0_ n1_ n2_ n3_ n4_; (try clear hb); (try clear hb2); (try clear hk); (try clear hi); have hnb64 := NB298_283.out; have hnc64 := NB283_298.out; have hnb65 := NB298_284.out; have hnc65 := NB284_298.out; have hcz66_0 : w63.cell? ⟨gb298, 0, none⟩ = some (.int .i64 t294) := (blk_cell BK298.out 0).trans rfl; have hcz66_1 : w63.cell? ⟨gb298, 1, none⟩ = some (.int .i64 t295) := (blk_cell BK298.out 1).trans rfl; have hcz66_2 : w63.cell? ⟨gb298, 2, none⟩ = some (.string t296) := (blk_cell BK298.out 2).trans rfl; have hfz66_0 := blk_frozen BK298.out 0; have hfz66_1 := blk_frozen BK298.out 1; have hfz66_2 := blk_frozen BK298.out 2) | (go_at_call 22; (with_reducible refine (scriberef06_Good.calls kj6 t294 t295 t296 t305 _ ?side1 A58.out).mono ?_); (case side1 => exact TB.below hT (by repeat (first | (with_reducible first | exact HB.out | apply below_alloc | apply pw_below_drewN | apply below_drew1 | refine below_set ?_ GE283.out | refine below_set ?_ GE284.out | refine below_set ?_ GE297.out | refine below_set ?_ GE298.out) | exact HB.out))); rintro e w67 ⟨rfl, hb⟩; have n0_ := Aside0.mk (blk_below (g := gb283) (o := .cells #[.int .i64 t285, .int .i64 t286, .string t287] 27 (0, 0)) (by (with_reducible repeat (first | refine blk_drewN ?_ _ | refine blk_drew ?_ | refine blk_alloc ?_ _)); exact BK283.out) hb); have n1_ := Aside0.mk (blk_below (g := gb284) (o := .cells #[.int .i64 t288, .int .i64 t289, .string t290] 27 (0, 0)) (by (with_reducible repeat (first | refine blk_drewN ?_ _ | refine blk_drew ?_ | refine blk_alloc ?_ _)); exact BK284.out) hb); have n2_ := Aside0.mk (blk_below (g := gb297) (o := .cells #[.int .i64 t291, .int .i64 t292, .string t293] 38 (0, 0)) (by (with_reducible repeat (first | refine blk_drewN ?_ _ | refine blk_drew ?_ | refine blk_alloc ?_ _)); exact BK297.out) hb); have n3_ := Aside0.mk (blk_below (g := gb298) (o := .cells #[.int .i64 t294, .int .i64 t295, .string t296] 38 (0, 0)) (by (with_reducible repeat (first | refine blk_drewN ?_ _ | refine blk_drew ?_ | refine blk_alloc ?_ _)); exact BK298.out) hb); have n4_ := Aside0.mk (below_step (by repeat (first | (with_reducible first | exact HB.out | apply below_alloc | apply pw_below_drewN | apply below_drew1 | refine below_set ?_ GE283.out | refine below_set ?_ GE284.out | refine below_set ?_ GE297.out | refine below_set ?_ GE298.out) | exact HB.out)) hb); clear BK283; clear BK284; clear BK297; clear BK298; clear HB; have BK283 := n0_; have BK284 := n1_; have BK297 := n2_; have BK298 := n3_; have HB := n4_; clear n0_ n1_ n2_ n3_ n4_; (try clear hb); (try clear hb2); (try clear hk); (try clear hi)))
      go_meet
      case rel => exact ⟨_, (!t305), (by first | rfl | (simp; done) | (simp [*]; done) | (simp; unfold wrap64; omega)), H', ⟨by have := HJ6.out; first | omega | exact Nat.le_refl _⟩, ⟨by (with_reducible repeat (first | refine blk_drewN ?_ _ | refine blk_drew ?_ | refine blk_alloc ?_ _)); exact BK283.out⟩, ⟨by (with_reducible repeat (first | refine blk_drewN ?_ _ | refine blk_drew ?_ | refine blk_alloc ?_ _)); exact BK284.out⟩, ⟨by (with_reducible repeat (first | refine blk_drewN ?_ _ | refine blk_drew ?_ | refine blk_alloc ?_ _)); exact BK297.out⟩, ⟨by (with_reducible repeat (first | refine blk_drewN ?_ _ | refine blk_drew ?_ | refine blk_alloc ?_ _)); exact BK298.out⟩, ⟨by repeat (first | (with_reducible first | exact HB.out | apply below_alloc | apply pw_below_drewN | apply below_drew1 | refine below_set ?_ GE283.out | refine below_set ?_ GE284.out | refine below_set ?_ GE297.out | refine below_set ?_ GE298.out) | exact HB.out)⟩⟩
     ·replace c57 := Bool.eq_false_iff.mpr c57
      subst c57
      have H1 : (scribelaw06_CellIs.j1 kj6 true t285 t286 t287 t288 t289 t290 t291 t292 t293 t294 t295 t296) = some r := by rw [if_neg (show ¬ (false = true) by decide)] at H; exact H
      clear H
      have H := H1
      clear H1
      have H' := Aside0.mk H
      clear H
      have hnb68 := NB297_283.out
      have hnc68 := NB283_297.out
      have hnb69 := NB297_284.out
      have hnc69 := NB284_297.out
      have hnb70 := NB297_298.out
      have hnc70 := NB298_297.out
      have hcz71_0 : wc.cell? ⟨gb297, 0, none⟩ = some (.int .i64 t291) := (blk_cell BK297.out 0).trans rfl
      have hcz71_1 : wc.cell? ⟨gb297, 1, none⟩ = some (.int .i64 t292) := (blk_cell BK297.out 1).trans rfl
      have hcz71_2 : wc.cell? ⟨gb297, 2, none⟩ = some (.string t293) := (blk_cell BK297.out 2).trans rfl
      have hfz71_0 := blk_frozen BK297.out 0
      have hfz71_1 := blk_frozen BK297.out 1
      have hfz71_2 := blk_frozen BK297.out 2
      go_wp2_with (first | ((with_reducible refine gate_callee (f := 22) rfl ?_); refine goesL_ (some 32) rfl rfl Tryd.func22 (by kernel_rfl) rfl #[.agg #[.int .i64 t291, .int .i64 t292, .string t293]] rfl (by (try simp only [List.map_toArray, List.map_cons, List.map_nil]); first | done | rfl | (simp only [List.length_drop, List.length_take]; rfl)) ?_; (with_reducible refine (scriberef06_Good.calls kj6 t291 t292 t293 false _ ?side1 A56.out).mono ?_); (case side1 => exact TB.below hT (by repeat (first | (with_reducible first | exact HB.out | apply below_alloc | apply pw_below_drewN | apply below_drew1 | refine below_set ?_ GE283.out | refine below_set ?_ GE284.out | refine below_set ?_ GE297.out | refine below_set ?_ GE298.out) | exact HB.out))); rintro e w72 ⟨rfl, hb⟩; refine ⟨_, rfl, ?_⟩; have n0_ := Aside0.mk (blk_below (g := gb283) (o := .cells #[.int .i64 t285, .int .i64 t286, .string t287] 27 (0, 0)) (by (with_reducible repeat (first | refine blk_drewN ?_ _ | refine blk_drew ?_ | refine blk_alloc ?_ _)); exact BK283.out) hb); have n1_ := Aside0.mk (blk_below (g := gb284) (o := .cells #[.int .i64 t288, .int .i64 t289, .string t290] 27 (0, 0)) (by (with_reducible repeat (first | refine blk_drewN ?_ _ | refine blk_drew ?_ | refine blk_alloc ?_ _)); exact BK284.out) hb); have n2_ := Aside0.mk (blk_below (g := gb297) (o := .cells #[.int .i64 t291, .int .i64 t292, .string t293] 38 (0, 0)) (by (with_reducible repeat (first | refine blk_drewN ?_ _ | refine blk_drew ?_ | refine blk_alloc ?_ _)); exact BK297.out) hb); have n3_ := Aside0.mk (blk_below (g := gb298) (o := .cells #[.int .i64 t294, .int .i64 t295, .string t296] 38 (0, 0)) (by (with_reducible repeat (first | refine blk_drewN ?_ _ | refine blk_drew ?_ | refine blk_alloc ?_ _)); exact BK298.out) hb); have n4_ := Aside0.mk (below_step (by repeat (first | (with_reducible first | exact HB.out | apply below_alloc | apply pw_below_drewN | apply below_drew1 | refine below_set ?_ GE283.out | refine below_set ?_ GE284.out | refine below_set ?_ GE297.out | refine below_set ?_ GE298.out) | exact HB.out)) hb); clear BK283; clear BK284; clear BK297; clear BK298; clear HB; have BK283 := n0_; have BK284 := n1_; have BK297 := n2_; have BK298 := n3_; have HB := n4_; clear n0_ n1_ n2_ n3_ n4_; (try clear hb); (try clear hb2); (try clear hk); (try clear hi)))
      go_meet
      case rel => exact ⟨_, (true), (by first | rfl | (simp; done) | (simp [*]; done) | (simp; unfold wrap64; omega)), H', ⟨by have := HJ6.out; first | omega | exact Nat.le_refl _⟩, ⟨by (with_reducible repeat (first | refine blk_drewN ?_ _ | refine blk_drew ?_ | refine blk_alloc ?_ _)); exact BK283.out⟩, ⟨by (with_reducible repeat (first | refine blk_drewN ?_ _ | refine blk_drew ?_ | refine blk_alloc ?_ _)); exact BK284.out⟩, ⟨by (with_reducible repeat (first | refine blk_drewN ?_ _ | refine blk_drew ?_ | refine blk_alloc ?_ _)); exact BK297.out⟩, ⟨by (with_reducible repeat (first | refine blk_drewN ?_ _ | refine blk_drew ?_ | refine blk_alloc ?_ _)); exact BK298.out⟩, ⟨by repeat (first | (with_reducible first | exact HB.out | apply below_alloc | apply pw_below_drewN | apply below_drew1 | refine below_set ?_ GE283.out | refine below_set ?_ GE284.out | refine below_set ?_ GE297.out | refine below_set ?_ GE298.out) | exact HB.out)⟩⟩
    case rest =>
     clear HC55
     try clear c1
     try clear c2
     try clear p2
     try clear c3
     try clear c5
     try clear c6
     try clear p6
     try clear c7
     try clear c11
     try clear c18
     try clear c22
     try clear c33
     try clear c36
     try clear c36b0
     try clear c36b1
     try clear c36b2
     try clear c54
     try clear c57
     try clear c59
     try clear c60
     try clear c61
     try clear c64
     try clear p64
     try clear c65
     try clear c68
     try clear c69
     try clear c70
     try clear hcz62_0
     try clear hcz62_1
     try clear hcz62_2
     try clear hcz66_0
     try clear hcz66_1
     try clear hcz66_2
     try clear hcz71_0
     try clear hcz71_1
     try clear hcz71_2
     try clear hfz62_0
     try clear hfz62_1
     try clear hfz62_2
     try clear hfz66_0
     try clear hfz66_1
     try clear hfz66_2
     try clear hfz71_0
     try clear hfz71_1
     try clear hfz71_2
     try clear p2
     try clear p6
     obtain ⟨kq, x38_54, rfl, HA, HJ54, BK283, BK284, BK297, BK298, HB⟩ := hcut
     cases kq with
     | zero => exact absurd HA.out (by simp [scribelaw06_CellIs.j1])
     | succ kj54 =>
      have H := HA.out
      clear HA
      simp only [scribelaw06_CellIs.j1] at H
      by_cases c73 : x38_54 = true
      ·subst c73
       have H1 : (some true) = some r := by rw [if_pos rfl] at H; exact H
       clear H
       have H := H1
       clear H1
       obtain rfl := Option.some.inj H
       go_wp2
       go_ret
       exact ⟨by first | rfl | (simp [errW_none, errW_some] <;> rfl) | (simp [errW_none, errW_some] <;> first | rfl | exact isEmpty_bne _) | (simp [*, errW_none, errW_some] <;> rfl), by repeat (first | (with_reducible first | exact HB.out | apply below_alloc | apply pw_below_drewN | apply below_drew1 | refine below_set ?_ GE283.out | refine below_set ?_ GE284.out | refine below_set ?_ GE297.out | refine below_set ?_ GE298.out) | exact HB.out)⟩
      ·replace c73 := Bool.eq_false_iff.mpr c73
       subst c73
       have H1 : ((cell_Cell_Num.f kj54 t285 t286 t287).bind fun t306 => ((scriberef06_Num.f kj54 t291 t292 t293).bind fun t307 => (if t306 = t307 then ((cell_Cell_Str.f kj54 t285 t286 t287).bind fun t308 => ((scriberef06_Str.f kj54 t291 t292 t293).bind fun t309 => (if t308.toList = t309.toList then ((cell_Cell_True.f t285 t286 t287).bind fun t310 => ((scriberef06_True.f t291 t292 t293).bind fun t311 => (if (t310 == t311) = true then ((cell_Compare.f kj54 t285 t286 t287 t288 t289 t290).bind fun t312 => ((scriberef06_Compare.f kj54 t291 t292 t293 t294 t295 t296).bind fun t313 => (some (t312 == t313)))) else (some false)))) else (some false)))) else (some false)))) = some r := by rw [if_neg (show ¬ (false = true) by decide)] at H; exact H
       clear H
       have H := H1
       clear H1
       replace H := Option.bind_eq_some_iff.mp H
       obtain ⟨t306, A740, H⟩ := H
       replace H : ((scriberef06_Num.f kj54 t291 t292 t293).bind fun t307 => (if t306 = t307 then ((cell_Cell_Str.f kj54 t285 t286 t287).bind fun t308 => ((scriberef06_Str.f kj54 t291 t292 t293).bind fun t309 => (if t308.toList = t309.toList then ((cell_Cell_True.f t285 t286 t287).bind fun t310 => ((scriberef06_True.f t291 t292 t293).bind fun t311 => (if (t310 == t311) = true then ((cell_Compare.f kj54 t285 t286 t287 t288 t289 t290).bind fun t312 => ((scriberef06_Compare.f kj54 t291 t292 t293 t294 t295 t296).bind fun t313 => (some (t312 == t313)))) else (some false)))) else (some false)))) else (some false))) = some r := H
       have A74 := Aside0.mk A740
       clear A740
       replace H := Option.bind_eq_some_iff.mp H
       obtain ⟨t307, A750, H⟩ := H
       replace H : (if t306 = t307 then ((cell_Cell_Str.f kj54 t285 t286 t287).bind fun t308 => ((scriberef06_Str.f kj54 t291 t292 t293).bind fun t309 => (if t308.toList = t309.toList then ((cell_Cell_True.f t285 t286 t287).bind fun t310 => ((scriberef06_True.f t291 t292 t293).bind fun t311 => (if (t310 == t311) = true then ((cell_Compare.f kj54 t285 t286 t287 t288 t289 t290).bind fun t312 => ((scriberef06_Compare.f kj54 t291 t292 t293 t294 t295 t296).bind fun t313 => (some (t312 == t313)))) else (some false)))) else (some false)))) else (some false)) = some r := H
       have A75 := Aside0.mk A750
       clear A750
       by_cases c76 : t306 = t307
       ·rw [if_pos c76] at H
        have c76b0 : (t306 == t307) = true := beq_iff_eq.mpr c76
        have c76b1 : (t306 != t307) = false := bne_eq_false_iff_eq.mpr c76
        clear c76
        replace H := Option.bind_eq_some_iff.mp H
        obtain ⟨t308, A770, H⟩ := H
        replace H : ((scriberef06_Str.f kj54 t291 t292 t293).bind fun t309 => (if t308.toList = t309.toList then ((cell_Cell_True.f t285 t286 t287).bind fun t310 => ((scriberef06_True.f t291 t292 t293).bind fun t311 => (if (t310 == t311) = true then ((cell_Compare.f kj54 t285 t286 t287 t288 t289 t290).bind fun t312 => ((scriberef06_Compare.f kj54 t291 t292 t293 t294 t295 t296).bind fun t313 => (some (t312 == t313)))) else (some false)))) else (some false))) = some r := H
        have A77 := Aside0.mk A770
        clear A770
        replace H := Option.bind_eq_some_iff.mp H
        obtain ⟨t309, A780, H⟩ := H
        replace H : (if t308.toList = t309.toList then ((cell_Cell_True.f t285 t286 t287).bind fun t310 => ((scriberef06_True.f t291 t292 t293).bind fun t311 => (if (t310 == t311) = true then ((cell_Compare.f kj54 t285 t286 t287 t288 t289 t290).bind fun t312 => ((scriberef06_Compare.f kj54 t291 t292 t293 t294 t295 t296).bind fun t313 => (some (t312 == t313)))) else (some false)))) else (some false)) = some r := H
        have A78 := Aside0.mk A780
        clear A780
        by_cases c79 : t308.toList = t309.toList
        ·rw [if_pos c79] at H
         have c79b0 : (t308.toList == t309.toList) = true := beq_iff_eq.mpr c79
         have c79b1 : (t308.toList != t309.toList) = false := bne_eq_false_iff_eq.mpr c79
         clear c79
         replace H := Option.bind_eq_some_iff.mp H
         obtain ⟨t310, A800, H⟩ := H
         replace H : ((scriberef06_True.f t291 t292 t293).bind fun t311 => (if (t310 == t311) = true then ((cell_Compare.f kj54 t285 t286 t287 t288 t289 t290).bind fun t312 => ((scriberef06_Compare.f kj54 t291 t292 t293 t294 t295 t296).bind fun t313 => (some (t312 == t313)))) else (some false))) = some r := H
         have A80 := Aside0.mk A800
         clear A800
         replace H := Option.bind_eq_some_iff.mp H
         obtain ⟨t311, A810, H⟩ := H
         replace H : (if (t310 == t311) = true then ((cell_Compare.f kj54 t285 t286 t287 t288 t289 t290).bind fun t312 => ((scriberef06_Compare.f kj54 t291 t292 t293 t294 t295 t296).bind fun t313 => (some (t312 == t313)))) else (some false)) = some r := H
         have A81 := Aside0.mk A810
         clear A810
         by_cases c82 : (t310 == t311) = true
         ·rw [if_pos c82] at H
          have c82b0 : (t310 == t311) = true := c82
          (try (have c82b1 : decide (t310 = t311) = true := by simpa using c82))
          (try (have c82b2 : (t310 == t311) = true := by simpa using c82))
          clear c82
          replace H := Option.bind_eq_some_iff.mp H
          obtain ⟨t312, A830, H⟩ := H
          replace H : ((scriberef06_Compare.f kj54 t291 t292 t293 t294 t295 t296).bind fun t313 => (some (t312 == t313))) = some r := H
          have A83 := Aside0.mk A830
          clear A830
          replace H := Option.bind_eq_some_iff.mp H
          obtain ⟨t313, A840, H⟩ := H
          replace H : (some (t312 == t313)) = some r := H
          have A84 := Aside0.mk A840
          clear A840
          obtain rfl := Option.some.inj H
          try go_wp2
          have n0_ := Aside0.mk (blk_drew BK283.out)
          have n1_ := Aside0.mk (blk_drew BK284.out)
          have n2_ := Aside0.mk (blk_drew BK297.out)
          have n3_ := Aside0.mk (blk_drew BK298.out)
          have n4_ := Aside0.mk (below_drew1 HB.out)
          clear BK283
          clear BK284
          clear BK297
          clear BK298
          clear HB
          have BK283 := n0_
          have BK284 := n1_
          have BK297 := n2_
          have BK298 := n3_
          have HB := n4_
          clear n0_ n1_ n2_ n3_ n4_
          refine start_ (n := 29) (S := fun w' => w'.cell? ⟨gb283, 0, none⟩ = some (.int .i64 t285) ∧ w'.cell? ⟨gb283, 1, none⟩ = some (.int .i64 t286) ∧ w'.cell? ⟨gb283, 2, none⟩ = some (.string t287) ∧ w'.cell? ⟨gb297, 0, none⟩ = some (.int .i64 t291) ∧ w'.cell? ⟨gb297, 1, none⟩ = some (.int .i64 t292) ∧ w'.cell? ⟨gb297, 2, none⟩ = some (.string t293) ∧ w'.cell? ⟨gb284, 0, none⟩ = some (.int .i64 t288) ∧ w'.cell? ⟨gb284, 1, none⟩ = some (.int .i64 t289) ∧ w'.cell? ⟨gb284, 2, none⟩ = some (.string t290) ∧ w'.cell? ⟨gb298, 0, none⟩ = some (.int .i64 t294) ∧ w'.cell? ⟨gb298, 1, none⟩ = some (.int .i64 t295) ∧ w'.cell? ⟨gb298, 2, none⟩ = some (.string t296)) (ds := []) #[ff,ff,ff,ff,ff,ff,ff,ff,ff,ff,ff,ff,ff,ff,ff,ff,ff,ff,ff,ff,ff,ff,ff,ff,ff,ff,ff,ff,ff] (by kernel_rfl) rfl rfl ⟨(blk_cell BK283.out 0).trans rfl, (blk_cell BK283.out 1).trans rfl, (blk_cell BK283.out 2).trans rfl, (blk_cell BK297.out 0).trans rfl, (blk_cell BK297.out 1).trans rfl, (blk_cell BK297.out 2).trans rfl, (blk_cell BK284.out 0).trans rfl, (blk_cell BK284.out 1).trans rfl, (blk_cell BK284.out 2).trans rfl, (blk_cell BK298.out 0).trans rfl, (blk_cell BK298.out 1).trans rfl, (blk_cell BK298.out 2).trans rfl⟩ (fun hHeld => ?_); refine with_tabW scribelaw06_CellIs.tab7 scribelaw06_CellIs.bits7 (fun HT_ HW_ => ?_)
          generalize wc.drew = w85 at BK283 BK284 BK297 BK298 HB hHeld ⊢
          refine take_ (i := 0) (N := some 39) (v := ?_) (a' := ?_) #[tt,ff,ff,ff,ff,ff,ff,ff,ff,ff,ff,ff,ff,ff,ff,ff,ff,ff,ff,ff,ff,ff,ff,ff,ff,ff,ff,ff,ff] rfl rfl (take_ofW HT_.out HW_.out (by kernel_rfl)) (fun _ _ _ h => h) (Or.inl ⟨by rfl, ?_⟩) hHeld ?_ ?_
          rotate_left
          ·rintro w' ⟨s0, s1, s2, s3, s4, s5, s6, s7, s8, s9, s10, s11⟩
           go_simp
           with_reducible rfl
          rotate_left
          ·simp only [Act.put, setA, setZ, setS, i64_w, i32_w]
           rfl
          refine take_ (i := 2) (N := some 41) (v := ?_) (a' := ?_) #[tt,ff,tt,ff,ff,ff,ff,ff,ff,ff,ff,ff,ff,ff,ff,ff,ff,ff,ff,ff,ff,ff,ff,ff,ff,ff,ff,ff,ff] rfl rfl (take_ofW HT_.out HW_.out (by kernel_rfl)) (fun _ _ _ h => h) (Or.inl ⟨by rfl, ?_⟩) hHeld ?_ ?_
          rotate_left
          ·rintro w' ⟨s0, s1, s2, s3, s4, s5, s6, s7, s8, s9, s10, s11⟩
           go_simp
           with_reducible rfl
          rotate_left
          ·simp only [Act.put, setA, setZ, setS, i64_w, i32_w]
           rfl
          refine one_ (i := 1) (N := some 40) #[tt,tt,tt,ff,ff,ff,ff,ff,ff,ff,ff,ff,ff,ff,ff,ff,ff,ff,ff,ff,ff,ff,ff,ff,ff,ff,ff,ff,ff] rfl rfl (one_of HT_.out (by kernel_rfl)) (by decide) (fun K hK => ?_)
          refine goes_ Tryd.func20 (by kernel_rfl) rfl #[.agg #[.int .i64 t285, .int .i64 t286, .string t287]] (by rfl) rfl rfl (by (try simp only [List.map_toArray, List.map_cons, List.map_nil]); first | done | rfl | (simp only [List.length_drop, List.length_take]; rfl)) ?_
          with_reducible refine (cell_Cell_Num.calls kj54 t285 t286 t287 t306 _ ?side1 A74.out).mono ?_
          (case side1 => exact TB.below hT HB.out)
          rintro e w86 ⟨rfl, hb⟩
          refine ⟨_, rfl, ?_⟩
          have n0_ := Aside0.mk (blk_below BK283.out hb)
          have n1_ := Aside0.mk (blk_below BK284.out hb)
          have n2_ := Aside0.mk (blk_below BK297.out hb)
          have n3_ := Aside0.mk (blk_below BK298.out hb)
          have n4_ := Aside0.mk (below_step HB.out hb)
          clear BK283
          clear BK284
          clear BK297
          clear BK298
          clear HB
          have BK283 := n0_
          have BK284 := n1_
          have BK297 := n2_
          have BK298 := n3_
          have HB := n4_
          clear n0_ n1_ n2_ n3_ n4_
          (try clear hb)
          (try clear hb2)
          (try clear hk)
          (try clear hi)
          refine hK.out _ _ ⟨(blk_cell BK283.out 0).trans rfl, (blk_cell BK283.out 1).trans rfl, (blk_cell BK283.out 2).trans rfl, (blk_cell BK297.out 0).trans rfl, (blk_cell BK297.out 1).trans rfl, (blk_cell BK297.out 2).trans rfl, (blk_cell BK284.out 0).trans rfl, (blk_cell BK284.out 1).trans rfl, (blk_cell BK284.out 2).trans rfl, (blk_cell BK298.out 0).trans rfl, (blk_cell BK298.out 1).trans rfl, (blk_cell BK298.out 2).trans rfl⟩ (fun hHeld => ?_)
          clear hK K
          refine norm_ (a' := ?_) ?_ ?_
          rotate_left
          ·show Act.put _ (some 40) _ = _
           simp only [Act.put, setA, setZ, setS, i64_w, i32_w]
           rfl
          refine one_ (i := 3) (N := some 42) #[tt,tt,tt,tt,ff,ff,ff,ff,ff,ff,ff,ff,ff,ff,ff,ff,ff,ff,ff,ff,ff,ff,ff,ff,ff,ff,ff,ff,ff] rfl rfl (one_of HT_.out (by kernel_rfl)) (by decide) (fun K hK => ?_)
          refine goes_ Tryd.func23 (by kernel_rfl) rfl #[.agg #[.int .i64 t291, .int .i64 t292, .string t293]] (by rfl) rfl rfl (by (try simp only [List.map_toArray, List.map_cons, List.map_nil]); first | done | rfl | (simp only [List.length_drop, List.length_take]; rfl)) ?_
          with_reducible refine (scriberef06_Num.calls kj54 t291 t292 t293 t307 _ ?side1 A75.out).mono ?_
          (case side1 => exact TB.below hT HB.out)
          rintro e w87 ⟨rfl, hb⟩
          refine ⟨_, rfl, ?_⟩
          have n0_ := Aside0.mk (blk_below BK283.out hb)
          have n1_ := Aside0.mk (blk_below BK284.out hb)
          have n2_ := Aside0.mk (blk_below BK297.out hb)
          have n3_ := Aside0.mk (blk_below BK298.out hb)
          have n4_ := Aside0.mk (below_step HB.out hb)
          clear BK283
          clear BK284
          clear BK297
          clear BK298
          clear HB
          have BK283 := n0_
          have BK284 := n1_
          have BK297 := n2_
          have BK298 := n3_
          have HB := n4_
          clear n0_ n1_ n2_ n3_ n4_
          (try clear hb)
          (try clear hb2)
          (try clear hk)
          (try clear hi)
          refine hK.out _ _ ⟨(blk_cell BK283.out 0).trans rfl, (blk_cell BK283.out 1).trans rfl, (blk_cell BK283.out 2).trans rfl, (blk_cell BK297.out 0).trans rfl, (blk_cell BK297.out 1).trans rfl, (blk_cell BK297.out 2).trans rfl, (blk_cell BK284.out 0).trans rfl, (blk_cell BK284.out 1).trans rfl, (blk_cell BK284.out 2).trans rfl, (blk_cell BK298.out 0).trans rfl, (blk_cell BK298.out 1).trans rfl, (blk_cell BK298.out 2).trans rfl⟩ (fun hHeld => ?_)
          clear hK K
          refine norm_ (a' := ?_) ?_ ?_
          rotate_left
          ·show Act.put _ (some 42) _ = _
           simp only [Act.put, setA, setZ, setS, i64_w, i32_w]
           rfl
          refine pure_ (i := 4) (N := some 43) (v := ?_) (a' := ?_) #[tt,tt,tt,tt,tt,ff,ff,ff,ff,ff,ff,ff,ff,ff,ff,ff,ff,ff,ff,ff,ff,ff,ff,ff,ff,ff,ff,ff,ff] rfl rfl (any_of HT_.out (by kernel_rfl)) (fun _ _ _ h => h) (Or.inl ⟨by rfl, ?_⟩) ?_ ?_
          rotate_left
          ·intro w'
           go_simp
           with_reducible rfl
          rotate_left
          ·simp only [Act.put, setA, setZ, setS, i64_w, i32_w]
           rfl
          refine pure_ (i := 5) (N := some 44) (v := ?_) (a' := ?_) #[tt,tt,tt,tt,tt,tt,ff,ff,ff,ff,ff,ff,ff,ff,ff,ff,ff,ff,ff,ff,ff,ff,ff,ff,ff,ff,ff,ff,ff] rfl rfl (any_of HT_.out (by kernel_rfl)) (fun _ _ _ h => h) (Or.inl ⟨by rfl, ?_⟩) ?_ ?_
          rotate_left
          ·intro w'
           go_simp
           with_reducible rfl
          rotate_left
          ·simp only [Act.put, setA, setZ, setS, i64_w, i32_w]
           rfl
          refine take_ (i := 6) (N := some 45) (v := ?_) (a' := ?_) #[tt,tt,tt,tt,tt,tt,tt,ff,ff,ff,ff,ff,ff,ff,ff,ff,ff,ff,ff,ff,ff,ff,ff,ff,ff,ff,ff,ff,ff] rfl rfl (take_ofW HT_.out HW_.out (by kernel_rfl)) (fun _ _ _ h => h) (Or.inl ⟨by rfl, ?_⟩) hHeld ?_ ?_
          rotate_left
          ·rintro w' ⟨s0, s1, s2, s3, s4, s5, s6, s7, s8, s9, s10, s11⟩
           go_simp
           with_reducible rfl
          rotate_left
          ·simp only [Act.put, setA, setZ, setS, i64_w, i32_w]
           rfl
          refine take_ (i := 8) (N := some 47) (v := ?_) (a' := ?_) #[tt,tt,tt,tt,tt,tt,tt,ff,tt,ff,ff,ff,ff,ff,ff,ff,ff,ff,ff,ff,ff,ff,ff,ff,ff,ff,ff,ff,ff] rfl rfl (take_ofW HT_.out HW_.out (by kernel_rfl)) (fun _ _ _ h => h) (Or.inl ⟨by rfl, ?_⟩) hHeld ?_ ?_
          rotate_left
          ·rintro w' ⟨s0, s1, s2, s3, s4, s5, s6, s7, s8, s9, s10, s11⟩
           go_simp
           with_reducible rfl
          rotate_left
          ·simp only [Act.put, setA, setZ, setS, i64_w, i32_w]
           rfl
          refine one_ (i := 7) (N := some 46) #[tt,tt,tt,tt,tt,tt,tt,tt,tt,ff,ff,ff,ff,ff,ff,ff,ff,ff,ff,ff,ff,ff,ff,ff,ff,ff,ff,ff,ff] rfl rfl (one_of HT_.out (by kernel_rfl)) (by decide) (fun K hK => ?_)
          refine goes_ Tryd.func19 (by kernel_rfl) rfl #[.agg #[.int .i64 t285, .int .i64 t286, .string t287]] (by rfl) rfl rfl (by (try simp only [List.map_toArray, List.map_cons, List.map_nil]); first | done | rfl | (simp only [List.length_drop, List.length_take]; rfl)) ?_
          with_reducible refine (cell_Cell_Str.calls kj54 t285 t286 t287 t308 _ ?side1 A77.out).mono ?_
          (case side1 => exact TB.below hT HB.out)
          rintro e w88 ⟨rfl, hb⟩
          refine ⟨_, rfl, ?_⟩
          have n0_ := Aside0.mk (blk_below BK283.out hb)
          have n1_ := Aside0.mk (blk_below BK284.out hb)
          have n2_ := Aside0.mk (blk_below BK297.out hb)
          have n3_ := Aside0.mk (blk_below BK298.out hb)
          have n4_ := Aside0.mk (below_step HB.out hb)
          clear BK283
          clear BK284
          clear BK297
          clear BK298
          clear HB
          have BK283 := n0_
          have BK284 := n1_
          have BK297 := n2_
          have BK298 := n3_
          have HB := n4_
          clear n0_ n1_ n2_ n3_ n4_
          (try clear hb)
          (try clear hb2)
          (try clear hk)
          (try clear hi)
          refine hK.out _ _ ⟨(blk_cell BK283.out 0).trans rfl, (blk_cell BK283.out 1).trans rfl, (blk_cell BK283.out 2).trans rfl, (blk_cell BK297.out 0).trans rfl, (blk_cell BK297.out 1).trans rfl, (blk_cell BK297.out 2).trans rfl, (blk_cell BK284.out 0).trans rfl, (blk_cell BK284.out 1).trans rfl, (blk_cell BK284.out 2).trans rfl, (blk_cell BK298.out 0).trans rfl, (blk_cell BK298.out 1).trans rfl, (blk_cell BK298.out 2).trans rfl⟩ (fun hHeld => ?_)
          clear hK K
          refine norm_ (a' := ?_) ?_ ?_
          rotate_left
          ·show Act.put _ (some 46) _ = _
           simp only [Act.put, setA, setZ, setS, i64_w, i32_w]
           rfl
          refine one_ (i := 9) (N := some 48) #[tt,tt,tt,tt,tt,tt,tt,tt,tt,tt,ff,ff,ff,ff,ff,ff,ff,ff,ff,ff,ff,ff,ff,ff,ff,ff,ff,ff,ff] rfl rfl (one_of HT_.out (by kernel_rfl)) (by decide) (fun K hK => ?_)
          refine goes_ Tryd.func24 (by kernel_rfl) rfl #[.agg #[.int .i64 t291, .int .i64 t292, .string t293]] (by rfl) rfl rfl (by (try simp only [List.map_toArray, List.map_cons, List.map_nil]); first | done | rfl | (simp only [List.length_drop, List.length_take]; rfl)) ?_
          with_reducible refine (scriberef06_Str.calls kj54 t291 t292 t293 t309 _ ?side1 A78.out).mono ?_
          (case side1 => exact TB.below hT HB.out)
          rintro e w89 ⟨rfl, hb⟩
          refine ⟨_, rfl, ?_⟩
          have n0_ := Aside0.mk (blk_below BK283.out hb)
          have n1_ := Aside0.mk (blk_below BK284.out hb)
          have n2_ := Aside0.mk (blk_below BK297.out hb)
          have n3_ := Aside0.mk (blk_below BK298.out hb)
          have n4_ := Aside0.mk (below_step HB.out hb)
          clear BK283
          clear BK284
          clear BK297
          clear BK298
          clear HB
          have BK283 := n0_
          have BK284 := n1_
          have BK297 := n2_
          have BK298 := n3_
          have HB := n4_
          clear n0_ n1_ n2_ n3_ n4_
          (try clear hb)
          (try clear hb2)
          (try clear hk)
          (try clear hi)
          refine hK.out _ _ ⟨(blk_cell BK283.out 0).trans rfl, (blk_cell BK283.out 1).trans rfl, (blk_cell BK283.out 2).trans rfl, (blk_cell BK297.out 0).trans rfl, (blk_cell BK297.out 1).trans rfl, (blk_cell BK297.out 2).trans rfl, (blk_cell BK284.out 0).trans rfl, (blk_cell BK284.out 1).trans rfl, (blk_cell BK284.out 2).trans rfl, (blk_cell BK298.out 0).trans rfl, (blk_cell BK298.out 1).trans rfl, (blk_cell BK298.out 2).trans rfl⟩ (fun hHeld => ?_)
          clear hK K
          refine norm_ (a' := ?_) ?_ ?_
          rotate_left
          ·show Act.put _ (some 48) _ = _
           simp only [Act.put, setA, setZ, setS, i64_w, i32_w]
           rfl
          refine pure_ (i := 10) (N := some 49) (v := ?_) (a' := ?_) #[tt,tt,tt,tt,tt,tt,tt,tt,tt,tt,tt,ff,ff,ff,ff,ff,ff,ff,ff,ff,ff,ff,ff,ff,ff,ff,ff,ff,ff] rfl rfl (any_of HT_.out (by kernel_rfl)) (fun _ _ _ h => h) (Or.inl ⟨by rfl, ?_⟩) ?_ ?_
          rotate_left
          ·intro w'
           go_simp
           with_reducible rfl
          rotate_left
          ·simp only [Act.put, setA, setZ, setS, i64_w, i32_w]
           rfl
          refine pure_ (i := 11) (N := some 50) (v := ?_) (a' := ?_) #[tt,tt,tt,tt,tt,tt,tt,tt,tt,tt,tt,tt,ff,ff,ff,ff,ff,ff,ff,ff,ff,ff,ff,ff,ff,ff,ff,ff,ff] rfl rfl (any_of HT_.out (by kernel_rfl)) (fun _ _ _ h => h) (Or.inl ⟨by rfl, ?_⟩) ?_ ?_
          rotate_left
          ·intro w'
           go_simp
           with_reducible rfl
          rotate_left
          ·simp only [Act.put, setA, setZ, setS, i64_w, i32_w]
           rfl
          refine pure_ (i := 12) (N := some 51) (v := ?_) (a' := ?_) #[tt,tt,tt,tt,tt,tt,tt,tt,tt,tt,tt,tt,tt,ff,ff,ff,ff,ff,ff,ff,ff,ff,ff,ff,ff,ff,ff,ff,ff] rfl rfl (any_of HT_.out (by kernel_rfl)) (fun _ _ _ h => h) (Or.inl ⟨by rfl, ?_⟩) ?_ ?_
          rotate_left
          ·intro w'
           go_simp
           with_reducible rfl
          rotate_left
          ·simp only [Act.put, setA, setZ, setS, i64_w, i32_w]
           rfl
          refine take_ (i := 13) (N := some 52) (v := ?_) (a' := ?_) #[tt,tt,tt,tt,tt,tt,tt,tt,tt,tt,tt,tt,tt,tt,ff,ff,ff,ff,ff,ff,ff,ff,ff,ff,ff,ff,ff,ff,ff] rfl rfl (take_ofW HT_.out HW_.out (by kernel_rfl)) (fun _ _ _ h => h) (Or.inl ⟨by rfl, ?_⟩) hHeld ?_ ?_
          rotate_left
          ·rintro w' ⟨s0, s1, s2, s3, s4, s5, s6, s7, s8, s9, s10, s11⟩
           go_simp
           with_reducible rfl
          rotate_left
          ·simp only [Act.put, setA, setZ, setS, i64_w, i32_w]
           rfl
          refine take_ (i := 15) (N := some 54) (v := ?_) (a' := ?_) #[tt,tt,tt,tt,tt,tt,tt,tt,tt,tt,tt,tt,tt,tt,ff,tt,ff,ff,ff,ff,ff,ff,ff,ff,ff,ff,ff,ff,ff] rfl rfl (take_ofW HT_.out HW_.out (by kernel_rfl)) (fun _ _ _ h => h) (Or.inl ⟨by rfl, ?_⟩) hHeld ?_ ?_
          rotate_left
          ·rintro w' ⟨s0, s1, s2, s3, s4, s5, s6, s7, s8, s9, s10, s11⟩
           go_simp
           with_reducible rfl
          rotate_left
          ·simp only [Act.put, setA, setZ, setS, i64_w, i32_w]
           rfl
          refine one_ (i := 14) (N := some 53) #[tt,tt,tt,tt,tt,tt,tt,tt,tt,tt,tt,tt,tt,tt,tt,tt,ff,ff,ff,ff,ff,ff,ff,ff,ff,ff,ff,ff,ff] rfl rfl (one_of HT_.out (by kernel_rfl)) (by decide) (fun K hK => ?_)
          refine goes_ Tryd.func25 (by kernel_rfl) rfl #[.agg #[.int .i64 t285, .int .i64 t286, .string t287]] (by rfl) rfl rfl (by (try simp only [List.map_toArray, List.map_cons, List.map_nil]); first | done | rfl | (simp only [List.length_drop, List.length_take]; rfl)) ?_
          with_reducible refine (cell_Cell_True.calls t285 t286 t287 t310 _ ?side1 A80.out).mono ?_
          (case side1 => exact TB.below hT HB.out)
          rintro e w90 ⟨rfl, hb⟩
          refine ⟨_, rfl, ?_⟩
          have n0_ := Aside0.mk (blk_below BK283.out hb)
          have n1_ := Aside0.mk (blk_below BK284.out hb)
          have n2_ := Aside0.mk (blk_below BK297.out hb)
          have n3_ := Aside0.mk (blk_below BK298.out hb)
          have n4_ := Aside0.mk (below_step HB.out hb)
          clear BK283
          clear BK284
          clear BK297
          clear BK298
          clear HB
          have BK283 := n0_
          have BK284 := n1_
          have BK297 := n2_
          have BK298 := n3_
          have HB := n4_
          clear n0_ n1_ n2_ n3_ n4_
          (try clear hb)
          (try clear hb2)
          (try clear hk)
          (try clear hi)
          refine hK.out _ _ ⟨(blk_cell BK283.out 0).trans rfl, (blk_cell BK283.out 1).trans rfl, (blk_cell BK283.out 2).trans rfl, (blk_cell BK297.out 0).trans rfl, (blk_cell BK297.out 1).trans rfl, (blk_cell BK297.out 2).trans rfl, (blk_cell BK284.out 0).trans rfl, (blk_cell BK284.out 1).trans rfl, (blk_cell BK284.out 2).trans rfl, (blk_cell BK298.out 0).trans rfl, (blk_cell BK298.out 1).trans rfl, (blk_cell BK298.out 2).trans rfl⟩ (fun hHeld => ?_)
          clear hK K
          refine norm_ (a' := ?_) ?_ ?_
          rotate_left
          ·show Act.put _ (some 53) _ = _
           simp only [Act.put, setA, setZ, setS, i64_w, i32_w]
           rfl
          refine one_ (i := 16) (N := some 55) #[tt,tt,tt,tt,tt,tt,tt,tt,tt,tt,tt,tt,tt,tt,tt,tt,tt,ff,ff,ff,ff,ff,ff,ff,ff,ff,ff,ff,ff] rfl rfl (one_of HT_.out (by kernel_rfl)) (by decide) (fun K hK => ?_)
          refine goes_ Tryd.func26 (by kernel_rfl) rfl #[.agg #[.int .i64 t291, .int .i64 t292, .string t293]] (by rfl) rfl rfl (by (try simp only [List.map_toArray, List.map_cons, List.map_nil]); first | done | rfl | (simp only [List.length_drop, List.length_take]; rfl)) ?_
          with_reducible refine (scriberef06_True.calls t291 t292 t293 t311 _ ?side1 A81.out).mono ?_
          (case side1 => exact TB.below hT HB.out)
          rintro e w91 ⟨rfl, hb⟩
          refine ⟨_, rfl, ?_⟩
          have n0_ := Aside0.mk (blk_below BK283.out hb)
          have n1_ := Aside0.mk (blk_below BK284.out hb)
          have n2_ := Aside0.mk (blk_below BK297.out hb)
          have n3_ := Aside0.mk (blk_below BK298.out hb)
          have n4_ := Aside0.mk (below_step HB.out hb)
          clear BK283
          clear BK284
          clear BK297
          clear BK298
          clear HB
          have BK283 := n0_
          have BK284 := n1_
          have BK297 := n2_
          have BK298 := n3_
          have HB := n4_
          clear n0_ n1_ n2_ n3_ n4_
          (try clear hb)
          (try clear hb2)
          (try clear hk)
          (try clear hi)
          refine hK.out _ _ ⟨(blk_cell BK283.out 0).trans rfl, (blk_cell BK283.out 1).trans rfl, (blk_cell BK283.out 2).trans rfl, (blk_cell BK297.out 0).trans rfl, (blk_cell BK297.out 1).trans rfl, (blk_cell BK297.out 2).trans rfl, (blk_cell BK284.out 0).trans rfl, (blk_cell BK284.out 1).trans rfl, (blk_cell BK284.out 2).trans rfl, (blk_cell BK298.out 0).trans rfl, (blk_cell BK298.out 1).trans rfl, (blk_cell BK298.out 2).trans rfl⟩ (fun hHeld => ?_)
          clear hK K
          refine norm_ (a' := ?_) ?_ ?_
          rotate_left
          ·show Act.put _ (some 55) _ = _
           simp only [Act.put, setA, setZ, setS, i64_w, i32_w]
           rfl
          refine pure_ (i := 17) (N := some 56) (v := ?_) (a' := ?_) #[tt,tt,tt,tt,tt,tt,tt,tt,tt,tt,tt,tt,tt,tt,tt,tt,tt,tt,ff,ff,ff,ff,ff,ff,ff,ff,ff,ff,ff] rfl rfl (any_of HT_.out (by kernel_rfl)) (fun _ _ _ h => h) (Or.inl ⟨by rfl, ?_⟩) ?_ ?_
          rotate_left
          ·intro w'
           go_simp
           with_reducible rfl
          rotate_left
          ·simp only [Act.put, setA, setZ, setS, i64_w, i32_w]
           rfl
          refine pure_ (i := 18) (N := some 57) (v := ?_) (a' := ?_) #[tt,tt,tt,tt,tt,tt,tt,tt,tt,tt,tt,tt,tt,tt,tt,tt,tt,tt,tt,ff,ff,ff,ff,ff,ff,ff,ff,ff,ff] rfl rfl (any_of HT_.out (by kernel_rfl)) (fun _ _ _ h => h) (Or.inl ⟨by rfl, ?_⟩) ?_ ?_
          rotate_left
          ·intro w'
           go_simp
           with_reducible rfl
          rotate_left
          ·simp only [Act.put, setA, setZ, setS, i64_w, i32_w]
           rfl
          refine pure_ (i := 19) (N := some 58) (v := ?_) (a' := ?_) #[tt,tt,tt,tt,tt,tt,tt,tt,tt,tt,tt,tt,tt,tt,tt,tt,tt,tt,tt,tt,ff,ff,ff,ff,ff,ff,ff,ff,ff] rfl rfl (any_of HT_.out (by kernel_rfl)) (fun _ _ _ h => h) (Or.inl ⟨by rfl, ?_⟩) ?_ ?_
          rotate_left
          ·intro w'
           go_simp
           with_reducible rfl
          rotate_left
          ·simp only [Act.put, setA, setZ, setS, i64_w, i32_w]
           rfl
          refine take_ (i := 20) (N := some 59) (v := ?_) (a' := ?_) #[tt,tt,tt,tt,tt,tt,tt,tt,tt,tt,tt,tt,tt,tt,tt,tt,tt,tt,tt,tt,tt,ff,ff,ff,ff,ff,ff,ff,ff] rfl rfl (take_ofW HT_.out HW_.out (by kernel_rfl)) (fun _ _ _ h => h) (Or.inl ⟨by rfl, ?_⟩) hHeld ?_ ?_
          rotate_left
          ·rintro w' ⟨s0, s1, s2, s3, s4, s5, s6, s7, s8, s9, s10, s11⟩
           go_simp
           with_reducible rfl
          rotate_left
          ·simp only [Act.put, setA, setZ, setS, i64_w, i32_w]
           rfl
          refine take_ (i := 21) (N := some 60) (v := ?_) (a' := ?_) #[tt,tt,tt,tt,tt,tt,tt,tt,tt,tt,tt,tt,tt,tt,tt,tt,tt,tt,tt,tt,tt,tt,ff,ff,ff,ff,ff,ff,ff] rfl rfl (take_ofW HT_.out HW_.out (by kernel_rfl)) (fun _ _ _ h => h) (Or.inl ⟨by rfl, ?_⟩) hHeld ?_ ?_
          rotate_left
          ·rintro w' ⟨s0, s1, s2, s3, s4, s5, s6, s7, s8, s9, s10, s11⟩
           go_simp
           with_reducible rfl
          rotate_left
          ·simp only [Act.put, setA, setZ, setS, i64_w, i32_w]
           rfl
          refine take_ (i := 23) (N := some 62) (v := ?_) (a' := ?_) #[tt,tt,tt,tt,tt,tt,tt,tt,tt,tt,tt,tt,tt,tt,tt,tt,tt,tt,tt,tt,tt,tt,ff,tt,ff,ff,ff,ff,ff] rfl rfl (take_ofW HT_.out HW_.out (by kernel_rfl)) (fun _ _ _ h => h) (Or.inl ⟨by rfl, ?_⟩) hHeld ?_ ?_
          rotate_left
          ·rintro w' ⟨s0, s1, s2, s3, s4, s5, s6, s7, s8, s9, s10, s11⟩
           go_simp
           with_reducible rfl
          rotate_left
          ·simp only [Act.put, setA, setZ, setS, i64_w, i32_w]
           rfl
          refine take_ (i := 24) (N := some 63) (v := ?_) (a' := ?_) #[tt,tt,tt,tt,tt,tt,tt,tt,tt,tt,tt,tt,tt,tt,tt,tt,tt,tt,tt,tt,tt,tt,ff,tt,tt,ff,ff,ff,ff] rfl rfl (take_ofW HT_.out HW_.out (by kernel_rfl)) (fun _ _ _ h => h) (Or.inl ⟨by rfl, ?_⟩) hHeld ?_ ?_
          rotate_left
          ·rintro w' ⟨s0, s1, s2, s3, s4, s5, s6, s7, s8, s9, s10, s11⟩
           go_simp
           with_reducible rfl
          rotate_left
          ·simp only [Act.put, setA, setZ, setS, i64_w, i32_w]
           rfl
          refine one_ (i := 22) (N := some 61) #[tt,tt,tt,tt,tt,tt,tt,tt,tt,tt,tt,tt,tt,tt,tt,tt,tt,tt,tt,tt,tt,tt,tt,tt,tt,ff,ff,ff,ff] rfl rfl (one_of HT_.out (by kernel_rfl)) (by decide) (fun K hK => ?_)
          refine goes_ Tryd.func12 (by kernel_rfl) rfl #[.agg #[.int .i64 t285, .int .i64 t286, .string t287], .agg #[.int .i64 t288, .int .i64 t289, .string t290]] (by rfl) rfl rfl (by (try simp only [List.map_toArray, List.map_cons, List.map_nil]); first | done | rfl | (simp only [List.length_drop, List.length_take]; rfl)) ?_
          with_reducible refine (cell_Compare.calls kj54 t285 t286 t287 t288 t289 t290 t312 _ ?side1 A83.out).mono ?_
          (case side1 => exact TB.below hT HB.out)
          rintro e w92 ⟨rfl, hb⟩
          refine ⟨_, rfl, ?_⟩
          have n0_ := Aside0.mk (blk_below BK283.out hb)
          have n1_ := Aside0.mk (blk_below BK284.out hb)
          have n2_ := Aside0.mk (blk_below BK297.out hb)
          have n3_ := Aside0.mk (blk_below BK298.out hb)
          have n4_ := Aside0.mk (below_step HB.out hb)
          clear BK283
          clear BK284
          clear BK297
          clear BK298
          clear HB
          have BK283 := n0_
          have BK284 := n1_
          have BK297 := n2_
          have BK298 := n3_
          have HB := n4_
          clear n0_ n1_ n2_ n3_ n4_
          (try clear hb)
          (try clear hb2)
          (try clear hk)
          (try clear hi)
          refine hK.out _ _ ⟨(blk_cell BK283.out 0).trans rfl, (blk_cell BK283.out 1).trans rfl, (blk_cell BK283.out 2).trans rfl, (blk_cell BK297.out 0).trans rfl, (blk_cell BK297.out 1).trans rfl, (blk_cell BK297.out 2).trans rfl, (blk_cell BK284.out 0).trans rfl, (blk_cell BK284.out 1).trans rfl, (blk_cell BK284.out 2).trans rfl, (blk_cell BK298.out 0).trans rfl, (blk_cell BK298.out 1).trans rfl, (blk_cell BK298.out 2).trans rfl⟩ (fun hHeld => ?_)
          clear hK K
          refine norm_ (a' := ?_) ?_ ?_
          rotate_left
          ·show Act.put _ (some 61) _ = _
           simp only [Act.put, setA, setZ, setS, i64_w, i32_w]
           rfl
          refine one_ (i := 25) (N := some 64) #[tt,tt,tt,tt,tt,tt,tt,tt,tt,tt,tt,tt,tt,tt,tt,tt,tt,tt,tt,tt,tt,tt,tt,tt,tt,tt,ff,ff,ff] rfl rfl (one_of HT_.out (by kernel_rfl)) (by decide) (fun K hK => ?_)
          refine goes_ Tryd.func27 (by kernel_rfl) rfl #[.agg #[.int .i64 t291, .int .i64 t292, .string t293], .agg #[.int .i64 t294, .int .i64 t295, .string t296]] (by rfl) rfl rfl (by (try simp only [List.map_toArray, List.map_cons, List.map_nil]); first | done | rfl | (simp only [List.length_drop, List.length_take]; rfl)) ?_
          with_reducible refine (scriberef06_Compare.calls kj54 t291 t292 t293 t294 t295 t296 t313 _ ?side1 A84.out).mono ?_
          (case side1 => exact TB.below hT HB.out)
          rintro e w93 ⟨rfl, hb⟩
          refine ⟨_, rfl, ?_⟩
          have n0_ := Aside0.mk (blk_below BK283.out hb)
          have n1_ := Aside0.mk (blk_below BK284.out hb)
          have n2_ := Aside0.mk (blk_below BK297.out hb)
          have n3_ := Aside0.mk (blk_below BK298.out hb)
          have n4_ := Aside0.mk (below_step HB.out hb)
          clear BK283
          clear BK284
          clear BK297
          clear BK298
          clear HB
          have BK283 := n0_
          have BK284 := n1_
          have BK297 := n2_
          have BK298 := n3_
          have HB := n4_
          clear n0_ n1_ n2_ n3_ n4_
          (try clear hb)
          (try clear hb2)
          (try clear hk)
          (try clear hi)
          refine hK.out _ _ ⟨(blk_cell BK283.out 0).trans rfl, (blk_cell BK283.out 1).trans rfl, (blk_cell BK283.out 2).trans rfl, (blk_cell BK297.out 0).trans rfl, (blk_cell BK297.out 1).trans rfl, (blk_cell BK297.out 2).trans rfl, (blk_cell BK284.out 0).trans rfl, (blk_cell BK284.out 1).trans rfl, (blk_cell BK284.out 2).trans rfl, (blk_cell BK298.out 0).trans rfl, (blk_cell BK298.out 1).trans rfl, (blk_cell BK298.out 2).trans rfl⟩ (fun hHeld => ?_)
          clear hK K
          refine norm_ (a' := ?_) ?_ ?_
          rotate_left
          ·show Act.put _ (some 64) _ = _
           simp only [Act.put, setA, setZ, setS, i64_w, i32_w]
           rfl
          refine pure_ (i := 26) (N := some 65) (v := ?_) (a' := ?_) #[tt,tt,tt,tt,tt,tt,tt,tt,tt,tt,tt,tt,tt,tt,tt,tt,tt,tt,tt,tt,tt,tt,tt,tt,tt,tt,tt,ff,ff] rfl rfl (any_of HT_.out (by kernel_rfl)) (fun _ _ _ h => h) (Or.inl ⟨by rfl, ?_⟩) ?_ ?_
          rotate_left
          ·intro w'
           go_simp
           with_reducible rfl
          rotate_left
          ·simp only [Act.put, setA, setZ, setS, i64_w, i32_w]
           rfl
          refine pure_ (i := 27) (N := some 66) (v := ?_) (a' := ?_) #[tt,tt,tt,tt,tt,tt,tt,tt,tt,tt,tt,tt,tt,tt,tt,tt,tt,tt,tt,tt,tt,tt,tt,tt,tt,tt,tt,tt,ff] rfl rfl (any_of HT_.out (by kernel_rfl)) (fun _ _ _ h => h) (Or.inl ⟨by rfl, ?_⟩) ?_ ?_
          rotate_left
          ·intro w'
           go_simp
           with_reducible rfl
          rotate_left
          ·simp only [Act.put, setA, setZ, setS, i64_w, i32_w]
           rfl
          refine pure_ (i := 28) (N := some 4) (v := ?_) (a' := ?_) #[tt,tt,tt,tt,tt,tt,tt,tt,tt,tt,tt,tt,tt,tt,tt,tt,tt,tt,tt,tt,tt,tt,tt,tt,tt,tt,tt,tt,tt] rfl rfl (any_of HT_.out (by kernel_rfl)) (fun _ _ _ h => h) (Or.inl ⟨by rfl, ?_⟩) ?_ ?_
          rotate_left
          ·intro w'
           go_simp
           with_reducible rfl
          rotate_left
          ·simp only [Act.put, setA, setZ, setS, i64_w, i32_w]
           rfl
          refine done_ (done_of HT_.out (by kernel_rfl)) ?_
          try go_wp2
          go_ret
          exact ⟨by first | rfl | (simp [errW_none, errW_some] <;> rfl) | (simp [errW_none, errW_some] <;> first | rfl | exact isEmpty_bne _) | (simp [*, errW_none, errW_some] <;> rfl), by repeat (first | (with_reducible first | exact HB.out | apply below_alloc | apply pw_below_drewN | apply below_drew1 | refine below_set ?_ GE283.out | refine below_set ?_ GE284.out | refine below_set ?_ GE297.out | refine below_set ?_ GE298.out) | exact HB.out)⟩
         ·rw [if_neg c82] at H
          have c82b0 : (t310 == t311) = false := by simpa using c82
          (try (have c82b1 : decide (t310 = t311) = false := by simpa using c82))
          (try (have c82b2 : (t310 == t311) = false := by simpa using c82))
          (try (have c82b3 : ¬ (t310 = t311) := by simpa using c82))
          clear c82
          obtain rfl := Option.some.inj H
          try go_wp2
          have n0_ := Aside0.mk (blk_drew BK283.out)
          have n1_ := Aside0.mk (blk_drew BK284.out)
          have n2_ := Aside0.mk (blk_drew BK297.out)
          have n3_ := Aside0.mk (blk_drew BK298.out)
          have n4_ := Aside0.mk (below_drew1 HB.out)
          clear BK283
          clear BK284
          clear BK297
          clear BK298
          clear HB
          have BK283 := n0_
          have BK284 := n1_
          have BK297 := n2_
          have BK298 := n3_
          have HB := n4_
          clear n0_ n1_ n2_ n3_ n4_
          refine start_ (n := 29) (S := fun w' => w'.cell? ⟨gb283, 0, none⟩ = some (.int .i64 t285) ∧ w'.cell? ⟨gb283, 1, none⟩ = some (.int .i64 t286) ∧ w'.cell? ⟨gb283, 2, none⟩ = some (.string t287) ∧ w'.cell? ⟨gb297, 0, none⟩ = some (.int .i64 t291) ∧ w'.cell? ⟨gb297, 1, none⟩ = some (.int .i64 t292) ∧ w'.cell? ⟨gb297, 2, none⟩ = some (.string t293)) (ds := []) #[ff,ff,ff,ff,ff,ff,ff,ff,ff,ff,ff,ff,ff,ff,ff,ff,ff,ff,ff,ff,ff,ff,ff,ff,ff,ff,ff,ff,ff] (by kernel_rfl) rfl rfl ⟨(blk_cell BK283.out 0).trans rfl, (blk_cell BK283.out 1).trans rfl, (blk_cell BK283.out 2).trans rfl, (blk_cell BK297.out 0).trans rfl, (blk_cell BK297.out 1).trans rfl, (blk_cell BK297.out 2).trans rfl⟩ (fun hHeld => ?_); refine with_tabW scribelaw06_CellIs.tab7 scribelaw06_CellIs.bits7 (fun HT_ HW_ => ?_)
          generalize wc.drew = w94 at BK283 BK284 BK297 BK298 HB hHeld ⊢
          refine take_ (i := 0) (N := some 39) (v := ?_) (a' := ?_) #[tt,ff,ff,ff,ff,ff,ff,ff,ff,ff,ff,ff,ff,ff,ff,ff,ff,ff,ff,ff,ff,ff,ff,ff,ff,ff,ff,ff,ff] rfl rfl (take_ofW HT_.out HW_.out (by kernel_rfl)) (fun _ _ _ h => h) (Or.inl ⟨by rfl, ?_⟩) hHeld ?_ ?_
          rotate_left
          ·rintro w' ⟨s0, s1, s2, s3, s4, s5⟩
           go_simp
           with_reducible rfl
          rotate_left
          ·simp only [Act.put, setA, setZ, setS, i64_w, i32_w]
           rfl
          refine take_ (i := 2) (N := some 41) (v := ?_) (a' := ?_) #[tt,ff,tt,ff,ff,ff,ff,ff,ff,ff,ff,ff,ff,ff,ff,ff,ff,ff,ff,ff,ff,ff,ff,ff,ff,ff,ff,ff,ff] rfl rfl (take_ofW HT_.out HW_.out (by kernel_rfl)) (fun _ _ _ h => h) (Or.inl ⟨by rfl, ?_⟩) hHeld ?_ ?_
          rotate_left
          ·rintro w' ⟨s0, s1, s2, s3, s4, s5⟩
           go_simp
           with_reducible rfl
          rotate_left
          ·simp only [Act.put, setA, setZ, setS, i64_w, i32_w]
           rfl
          refine one_ (i := 1) (N := some 40) #[tt,tt,tt,ff,ff,ff,ff,ff,ff,ff,ff,ff,ff,ff,ff,ff,ff,ff,ff,ff,ff,ff,ff,ff,ff,ff,ff,ff,ff] rfl rfl (one_of HT_.out (by kernel_rfl)) (by decide) (fun K hK => ?_)
          refine goes_ Tryd.func20 (by kernel_rfl) rfl #[.agg #[.int .i64 t285, .int .i64 t286, .string t287]] (by rfl) rfl rfl (by (try simp only [List.map_toArray, List.map_cons, List.map_nil]); first | done | rfl | (simp only [List.length_drop, List.length_take]; rfl)) ?_
          with_reducible refine (cell_Cell_Num.calls kj54 t285 t286 t287 t306 _ ?side1 A74.out).mono ?_
          (case side1 => exact TB.below hT HB.out)
          rintro e w95 ⟨rfl, hb⟩
          refine ⟨_, rfl, ?_⟩
          have n0_ := Aside0.mk (blk_below BK283.out hb)
          have n1_ := Aside0.mk (blk_below BK284.out hb)
          have n2_ := Aside0.mk (blk_below BK297.out hb)
          have n3_ := Aside0.mk (blk_below BK298.out hb)
          have n4_ := Aside0.mk (below_step HB.out hb)
          clear BK283
          clear BK284
          clear BK297
          clear BK298
          clear HB
          have BK283 := n0_
          have BK284 := n1_
          have BK297 := n2_
          have BK298 := n3_
          have HB := n4_
          clear n0_ n1_ n2_ n3_ n4_
          (try clear hb)
          (try clear hb2)
          (try clear hk)
          (try clear hi)
          refine hK.out _ _ ⟨(blk_cell BK283.out 0).trans rfl, (blk_cell BK283.out 1).trans rfl, (blk_cell BK283.out 2).trans rfl, (blk_cell BK297.out 0).trans rfl, (blk_cell BK297.out 1).trans rfl, (blk_cell BK297.out 2).trans rfl⟩ (fun hHeld => ?_)
          clear hK K
          refine norm_ (a' := ?_) ?_ ?_
          rotate_left
          ·show Act.put _ (some 40) _ = _
           simp only [Act.put, setA, setZ, setS, i64_w, i32_w]
           rfl
          refine one_ (i := 3) (N := some 42) #[tt,tt,tt,tt,ff,ff,ff,ff,ff,ff,ff,ff,ff,ff,ff,ff,ff,ff,ff,ff,ff,ff,ff,ff,ff,ff,ff,ff,ff] rfl rfl (one_of HT_.out (by kernel_rfl)) (by decide) (fun K hK => ?_)
          refine goes_ Tryd.func23 (by kernel_rfl) rfl #[.agg #[.int .i64 t291, .int .i64 t292, .string t293]] (by rfl) rfl rfl (by (try simp only [List.map_toArray, List.map_cons, List.map_nil]); first | done | rfl | (simp only [List.length_drop, List.length_take]; rfl)) ?_
          with_reducible refine (scriberef06_Num.calls kj54 t291 t292 t293 t307 _ ?side1 A75.out).mono ?_
          (case side1 => exact TB.below hT HB.out)
          rintro e w96 ⟨rfl, hb⟩
          refine ⟨_, rfl, ?_⟩
          have n0_ := Aside0.mk (blk_below BK283.out hb)
          have n1_ := Aside0.mk (blk_below BK284.out hb)
          have n2_ := Aside0.mk (blk_below BK297.out hb)
          have n3_ := Aside0.mk (blk_below BK298.out hb)
          have n4_ := Aside0.mk (below_step HB.out hb)
          clear BK283
          clear BK284
          clear BK297
          clear BK298
          clear HB
          have BK283 := n0_
          have BK284 := n1_
          have BK297 := n2_
          have BK298 := n3_
          have HB := n4_
          clear n0_ n1_ n2_ n3_ n4_
          (try clear hb)
          (try clear hb2)
          (try clear hk)
          (try clear hi)
          refine hK.out _ _ ⟨(blk_cell BK283.out 0).trans rfl, (blk_cell BK283.out 1).trans rfl, (blk_cell BK283.out 2).trans rfl, (blk_cell BK297.out 0).trans rfl, (blk_cell BK297.out 1).trans rfl, (blk_cell BK297.out 2).trans rfl⟩ (fun hHeld => ?_)
          clear hK K
          refine norm_ (a' := ?_) ?_ ?_
          rotate_left
          ·show Act.put _ (some 42) _ = _
           simp only [Act.put, setA, setZ, setS, i64_w, i32_w]
           rfl
          refine pure_ (i := 4) (N := some 43) (v := ?_) (a' := ?_) #[tt,tt,tt,tt,tt,ff,ff,ff,ff,ff,ff,ff,ff,ff,ff,ff,ff,ff,ff,ff,ff,ff,ff,ff,ff,ff,ff,ff,ff] rfl rfl (any_of HT_.out (by kernel_rfl)) (fun _ _ _ h => h) (Or.inl ⟨by rfl, ?_⟩) ?_ ?_
          rotate_left
          ·intro w'
           go_simp
           with_reducible rfl
          rotate_left
          ·simp only [Act.put, setA, setZ, setS, i64_w, i32_w]
           rfl
          refine pure_ (i := 5) (N := some 44) (v := ?_) (a' := ?_) #[tt,tt,tt,tt,tt,tt,ff,ff,ff,ff,ff,ff,ff,ff,ff,ff,ff,ff,ff,ff,ff,ff,ff,ff,ff,ff,ff,ff,ff] rfl rfl (any_of HT_.out (by kernel_rfl)) (fun _ _ _ h => h) (Or.inl ⟨by rfl, ?_⟩) ?_ ?_
          rotate_left
          ·intro w'
           go_simp
           with_reducible rfl
          rotate_left
          ·simp only [Act.put, setA, setZ, setS, i64_w, i32_w]
           rfl
          refine take_ (i := 6) (N := some 45) (v := ?_) (a' := ?_) #[tt,tt,tt,tt,tt,tt,tt,ff,ff,ff,ff,ff,ff,ff,ff,ff,ff,ff,ff,ff,ff,ff,ff,ff,ff,ff,ff,ff,ff] rfl rfl (take_ofW HT_.out HW_.out (by kernel_rfl)) (fun _ _ _ h => h) (Or.inl ⟨by rfl, ?_⟩) hHeld ?_ ?_
          rotate_left
          ·rintro w' ⟨s0, s1, s2, s3, s4, s5⟩
           go_simp
           with_reducible rfl
          rotate_left
          ·simp only [Act.put, setA, setZ, setS, i64_w, i32_w]
           rfl
          refine take_ (i := 8) (N := some 47) (v := ?_) (a' := ?_) #[tt,tt,tt,tt,tt,tt,tt,ff,tt,ff,ff,ff,ff,ff,ff,ff,ff,ff,ff,ff,ff,ff,ff,ff,ff,ff,ff,ff,ff] rfl rfl (take_ofW HT_.out HW_.out (by kernel_rfl)) (fun _ _ _ h => h) (Or.inl ⟨by rfl, ?_⟩) hHeld ?_ ?_
          rotate_left
          ·rintro w' ⟨s0, s1, s2, s3, s4, s5⟩
           go_simp
           with_reducible rfl
          rotate_left
          ·simp only [Act.put, setA, setZ, setS, i64_w, i32_w]
           rfl
          refine one_ (i := 7) (N := some 46) #[tt,tt,tt,tt,tt,tt,tt,tt,tt,ff,ff,ff,ff,ff,ff,ff,ff,ff,ff,ff,ff,ff,ff,ff,ff,ff,ff,ff,ff] rfl rfl (one_of HT_.out (by kernel_rfl)) (by decide) (fun K hK => ?_)
          refine goes_ Tryd.func19 (by kernel_rfl) rfl #[.agg #[.int .i64 t285, .int .i64 t286, .string t287]] (by rfl) rfl rfl (by (try simp only [List.map_toArray, List.map_cons, List.map_nil]); first | done | rfl | (simp only [List.length_drop, List.length_take]; rfl)) ?_
          with_reducible refine (cell_Cell_Str.calls kj54 t285 t286 t287 t308 _ ?side1 A77.out).mono ?_
          (case side1 => exact TB.below hT HB.out)
          rintro e w97 ⟨rfl, hb⟩
          refine ⟨_, rfl, ?_⟩
          have n0_ := Aside0.mk (blk_below BK283.out hb)
          have n1_ := Aside0.mk (blk_below BK284.out hb)
          have n2_ := Aside0.mk (blk_below BK297.out hb)
          have n3_ := Aside0.mk (blk_below BK298.out hb)
          have n4_ := Aside0.mk (below_step HB.out hb)
          clear BK283
          clear BK284
          clear BK297
          clear BK298
          clear HB
          have BK283 := n0_
          have BK284 := n1_
          have BK297 := n2_
          have BK298 := n3_
          have HB := n4_
          clear n0_ n1_ n2_ n3_ n4_
          (try clear hb)
          (try clear hb2)
          (try clear hk)
          (try clear hi)
          refine hK.out _ _ ⟨(blk_cell BK283.out 0).trans rfl, (blk_cell BK283.out 1).trans rfl, (blk_cell BK283.out 2).trans rfl, (blk_cell BK297.out 0).trans rfl, (blk_cell BK297.out 1).trans rfl, (blk_cell BK297.out 2).trans rfl⟩ (fun hHeld => ?_)
          clear hK K
          refine norm_ (a' := ?_) ?_ ?_
          rotate_left
          ·show Act.put _ (some 46) _ = _
           simp only [Act.put, setA, setZ, setS, i64_w, i32_w]
           rfl
          refine one_ (i := 9) (N := some 48) #[tt,tt,tt,tt,tt,tt,tt,tt,tt,tt,ff,ff,ff,ff,ff,ff,ff,ff,ff,ff,ff,ff,ff,ff,ff,ff,ff,ff,ff] rfl rfl (one_of HT_.out (by kernel_rfl)) (by decide) (fun K hK => ?_)
          refine goes_ Tryd.func24 (by kernel_rfl) rfl #[.agg #[.int .i64 t291, .int .i64 t292, .string t293]] (by rfl) rfl rfl (by (try simp only [List.map_toArray, List.map_cons, List.map_nil]); first | done | rfl | (simp only [List.length_drop, List.length_take]; rfl)) ?_
          with_reducible refine (scriberef06_Str.calls kj54 t291 t292 t293 t309 _ ?side1 A78.out).mono ?_
          (case side1 => exact TB.below hT HB.out)
          rintro e w98 ⟨rfl, hb⟩
          refine ⟨_, rfl, ?_⟩
          have n0_ := Aside0.mk (blk_below BK283.out hb)
          have n1_ := Aside0.mk (blk_below BK284.out hb)
          have n2_ := Aside0.mk (blk_below BK297.out hb)
          have n3_ := Aside0.mk (blk_below BK298.out hb)
          have n4_ := Aside0.mk (below_step HB.out hb)
          clear BK283
          clear BK284
          clear BK297
          clear BK298
          clear HB
          have BK283 := n0_
          have BK284 := n1_
          have BK297 := n2_
          have BK298 := n3_
          have HB := n4_
          clear n0_ n1_ n2_ n3_ n4_
          (try clear hb)
          (try clear hb2)
          (try clear hk)
          (try clear hi)
          refine hK.out _ _ ⟨(blk_cell BK283.out 0).trans rfl, (blk_cell BK283.out 1).trans rfl, (blk_cell BK283.out 2).trans rfl, (blk_cell BK297.out 0).trans rfl, (blk_cell BK297.out 1).trans rfl, (blk_cell BK297.out 2).trans rfl⟩ (fun hHeld => ?_)
          clear hK K
          refine norm_ (a' := ?_) ?_ ?_
          rotate_left
          ·show Act.put _ (some 48) _ = _
           simp only [Act.put, setA, setZ, setS, i64_w, i32_w]
           rfl
          refine pure_ (i := 10) (N := some 49) (v := ?_) (a' := ?_) #[tt,tt,tt,tt,tt,tt,tt,tt,tt,tt,tt,ff,ff,ff,ff,ff,ff,ff,ff,ff,ff,ff,ff,ff,ff,ff,ff,ff,ff] rfl rfl (any_of HT_.out (by kernel_rfl)) (fun _ _ _ h => h) (Or.inl ⟨by rfl, ?_⟩) ?_ ?_
          rotate_left
          ·intro w'
           go_simp
           with_reducible rfl
          rotate_left
          ·simp only [Act.put, setA, setZ, setS, i64_w, i32_w]
           rfl
          refine pure_ (i := 11) (N := some 50) (v := ?_) (a' := ?_) #[tt,tt,tt,tt,tt,tt,tt,tt,tt,tt,tt,tt,ff,ff,ff,ff,ff,ff,ff,ff,ff,ff,ff,ff,ff,ff,ff,ff,ff] rfl rfl (any_of HT_.out (by kernel_rfl)) (fun _ _ _ h => h) (Or.inl ⟨by rfl, ?_⟩) ?_ ?_
          rotate_left
          ·intro w'
           go_simp
           with_reducible rfl
          rotate_left
          ·simp only [Act.put, setA, setZ, setS, i64_w, i32_w]
           rfl
          refine pure_ (i := 12) (N := some 51) (v := ?_) (a' := ?_) #[tt,tt,tt,tt,tt,tt,tt,tt,tt,tt,tt,tt,tt,ff,ff,ff,ff,ff,ff,ff,ff,ff,ff,ff,ff,ff,ff,ff,ff] rfl rfl (any_of HT_.out (by kernel_rfl)) (fun _ _ _ h => h) (Or.inl ⟨by rfl, ?_⟩) ?_ ?_
          rotate_left
          ·intro w'
           go_simp
           with_reducible rfl
          rotate_left
          ·simp only [Act.put, setA, setZ, setS, i64_w, i32_w]
           rfl
          refine take_ (i := 13) (N := some 52) (v := ?_) (a' := ?_) #[tt,tt,tt,tt,tt,tt,tt,tt,tt,tt,tt,tt,tt,tt,ff,ff,ff,ff,ff,ff,ff,ff,ff,ff,ff,ff,ff,ff,ff] rfl rfl (take_ofW HT_.out HW_.out (by kernel_rfl)) (fun _ _ _ h => h) (Or.inl ⟨by rfl, ?_⟩) hHeld ?_ ?_
          rotate_left
          ·rintro w' ⟨s0, s1, s2, s3, s4, s5⟩
           go_simp
           with_reducible rfl
          rotate_left
          ·simp only [Act.put, setA, setZ, setS, i64_w, i32_w]
           rfl
          refine take_ (i := 15) (N := some 54) (v := ?_) (a' := ?_) #[tt,tt,tt,tt,tt,tt,tt,tt,tt,tt,tt,tt,tt,tt,ff,tt,ff,ff,ff,ff,ff,ff,ff,ff,ff,ff,ff,ff,ff] rfl rfl (take_ofW HT_.out HW_.out (by kernel_rfl)) (fun _ _ _ h => h) (Or.inl ⟨by rfl, ?_⟩) hHeld ?_ ?_
          rotate_left
          ·rintro w' ⟨s0, s1, s2, s3, s4, s5⟩
           go_simp
           with_reducible rfl
          rotate_left
          ·simp only [Act.put, setA, setZ, setS, i64_w, i32_w]
           rfl
          refine one_ (i := 14) (N := some 53) #[tt,tt,tt,tt,tt,tt,tt,tt,tt,tt,tt,tt,tt,tt,tt,tt,ff,ff,ff,ff,ff,ff,ff,ff,ff,ff,ff,ff,ff] rfl rfl (one_of HT_.out (by kernel_rfl)) (by decide) (fun K hK => ?_)
          refine goes_ Tryd.func25 (by kernel_rfl) rfl #[.agg #[.int .i64 t285, .int .i64 t286, .string t287]] (by rfl) rfl rfl (by (try simp only [List.map_toArray, List.map_cons, List.map_nil]); first | done | rfl | (simp only [List.length_drop, List.length_take]; rfl)) ?_
          with_reducible refine (cell_Cell_True.calls t285 t286 t287 t310 _ ?side1 A80.out).mono ?_
          (case side1 => exact TB.below hT HB.out)
          rintro e w99 ⟨rfl, hb⟩
          refine ⟨_, rfl, ?_⟩
          have n0_ := Aside0.mk (blk_below BK283.out hb)
          have n1_ := Aside0.mk (blk_below BK284.out hb)
          have n2_ := Aside0.mk (blk_below BK297.out hb)
          have n3_ := Aside0.mk (blk_below BK298.out hb)
          have n4_ := Aside0.mk (below_step HB.out hb)
          clear BK283
          clear BK284
          clear BK297
          clear BK298
          clear HB
          have BK283 := n0_
          have BK284 := n1_
          have BK297 := n2_
          have BK298 := n3_
          have HB := n4_
          clear n0_ n1_ n2_ n3_ n4_
          (try clear hb)
          (try clear hb2)
          (try clear hk)
          (try clear hi)
          refine hK.out _ _ ⟨(blk_cell BK283.out 0).trans rfl, (blk_cell BK283.out 1).trans rfl, (blk_cell BK283.out 2).trans rfl, (blk_cell BK297.out 0).trans rfl, (blk_cell BK297.out 1).trans rfl, (blk_cell BK297.out 2).trans rfl⟩ (fun hHeld => ?_)
          clear hK K
          refine norm_ (a' := ?_) ?_ ?_
          rotate_left
          ·show Act.put _ (some 53) _ = _
           simp only [Act.put, setA, setZ, setS, i64_w, i32_w]
           rfl
          refine one_ (i := 16) (N := some 55) #[tt,tt,tt,tt,tt,tt,tt,tt,tt,tt,tt,tt,tt,tt,tt,tt,tt,ff,ff,ff,ff,ff,ff,ff,ff,ff,ff,ff,ff] rfl rfl (one_of HT_.out (by kernel_rfl)) (by decide) (fun K hK => ?_)
          refine goes_ Tryd.func26 (by kernel_rfl) rfl #[.agg #[.int .i64 t291, .int .i64 t292, .string t293]] (by rfl) rfl rfl (by (try simp only [List.map_toArray, List.map_cons, List.map_nil]); first | done | rfl | (simp only [List.length_drop, List.length_take]; rfl)) ?_
          with_reducible refine (scriberef06_True.calls t291 t292 t293 t311 _ ?side1 A81.out).mono ?_
          (case side1 => exact TB.below hT HB.out)
          rintro e w100 ⟨rfl, hb⟩
          refine ⟨_, rfl, ?_⟩
          have n0_ := Aside0.mk (blk_below BK283.out hb)
          have n1_ := Aside0.mk (blk_below BK284.out hb)
          have n2_ := Aside0.mk (blk_below BK297.out hb)
          have n3_ := Aside0.mk (blk_below BK298.out hb)
          have n4_ := Aside0.mk (below_step HB.out hb)
          clear BK283
          clear BK284
          clear BK297
          clear BK298
          clear HB
          have BK283 := n0_
          have BK284 := n1_
          have BK297 := n2_
          have BK298 := n3_
          have HB := n4_
          clear n0_ n1_ n2_ n3_ n4_
          (try clear hb)
          (try clear hb2)
          (try clear hk)
          (try clear hi)
          refine hK.out _ _ ⟨(blk_cell BK283.out 0).trans rfl, (blk_cell BK283.out 1).trans rfl, (blk_cell BK283.out 2).trans rfl, (blk_cell BK297.out 0).trans rfl, (blk_cell BK297.out 1).trans rfl, (blk_cell BK297.out 2).trans rfl⟩ (fun hHeld => ?_)
          clear hK K
          refine norm_ (a' := ?_) ?_ ?_
          rotate_left
          ·show Act.put _ (some 55) _ = _
           simp only [Act.put, setA, setZ, setS, i64_w, i32_w]
           rfl
          refine pure_ (i := 17) (N := some 56) (v := ?_) (a' := ?_) #[tt,tt,tt,tt,tt,tt,tt,tt,tt,tt,tt,tt,tt,tt,tt,tt,tt,tt,ff,ff,ff,ff,ff,ff,ff,ff,ff,ff,ff] rfl rfl (any_of HT_.out (by kernel_rfl)) (fun _ _ _ h => h) (Or.inl ⟨by rfl, ?_⟩) ?_ ?_
          rotate_left
          ·intro w'
           go_simp
           with_reducible rfl
          rotate_left
          ·simp only [Act.put, setA, setZ, setS, i64_w, i32_w]
           rfl
          refine pure_ (i := 18) (N := some 57) (v := ?_) (a' := ?_) #[tt,tt,tt,tt,tt,tt,tt,tt,tt,tt,tt,tt,tt,tt,tt,tt,tt,tt,tt,ff,ff,ff,ff,ff,ff,ff,ff,ff,ff] rfl rfl (any_of HT_.out (by kernel_rfl)) (fun _ _ _ h => h) (Or.inl ⟨by rfl, ?_⟩) ?_ ?_
          rotate_left
          ·intro w'
           go_simp
           with_reducible rfl
          rotate_left
          ·simp only [Act.put, setA, setZ, setS, i64_w, i32_w]
           rfl
          refine pure_ (i := 19) (N := some 58) (v := ?_) (a' := ?_) #[tt,tt,tt,tt,tt,tt,tt,tt,tt,tt,tt,tt,tt,tt,tt,tt,tt,tt,tt,tt,ff,ff,ff,ff,ff,ff,ff,ff,ff] rfl rfl (any_of HT_.out (by kernel_rfl)) (fun _ _ _ h => h) (Or.inl ⟨by rfl, ?_⟩) ?_ ?_
          rotate_left
          ·intro w'
           go_simp
           with_reducible rfl
          rotate_left
          ·simp only [Act.put, setA, setZ, setS, i64_w, i32_w]
           rfl
          refine pure_ (i := 20) (N := some 59) (v := undef) (a' := ?_) #[tt,tt,tt,tt,tt,tt,tt,tt,tt,tt,tt,tt,tt,tt,tt,tt,tt,tt,tt,tt,tt,ff,ff,ff,ff,ff,ff,ff,ff] rfl rfl (any_of HT_.out (by kernel_rfl)) (fun _ _ _ h => h) (Or.inr ⟨by rfl, rfl⟩) ?_ ?_
          rotate_left
          ·simp only [Act.put, setA, setZ, setS, i64_w, i32_w]
           rfl
          refine pure_ (i := 21) (N := some 60) (v := undef) (a' := ?_) #[tt,tt,tt,tt,tt,tt,tt,tt,tt,tt,tt,tt,tt,tt,tt,tt,tt,tt,tt,tt,tt,tt,ff,ff,ff,ff,ff,ff,ff] rfl rfl (any_of HT_.out (by kernel_rfl)) (fun _ _ _ h => h) (Or.inr ⟨by rfl, rfl⟩) ?_ ?_
          rotate_left
          ·simp only [Act.put, setA, setZ, setS, i64_w, i32_w]
           rfl
          refine pure_ (i := 22) (N := some 61) (v := undef) (a' := ?_) #[tt,tt,tt,tt,tt,tt,tt,tt,tt,tt,tt,tt,tt,tt,tt,tt,tt,tt,tt,tt,tt,tt,tt,ff,ff,ff,ff,ff,ff] rfl rfl (any_of HT_.out (by kernel_rfl)) (fun _ _ _ h => h) (Or.inr ⟨by rfl, rfl⟩) ?_ ?_
          rotate_left
          ·simp only [Act.put, setA, setZ, setS, i64_w, i32_w]
           rfl
          refine pure_ (i := 23) (N := some 62) (v := undef) (a' := ?_) #[tt,tt,tt,tt,tt,tt,tt,tt,tt,tt,tt,tt,tt,tt,tt,tt,tt,tt,tt,tt,tt,tt,tt,tt,ff,ff,ff,ff,ff] rfl rfl (any_of HT_.out (by kernel_rfl)) (fun _ _ _ h => h) (Or.inr ⟨by rfl, rfl⟩) ?_ ?_
          rotate_left
          ·simp only [Act.put, setA, setZ, setS, i64_w, i32_w]
           rfl
          refine pure_ (i := 24) (N := some 63) (v := undef) (a' := ?_) #[tt,tt,tt,tt,tt,tt,tt,tt,tt,tt,tt,tt,tt,tt,tt,tt,tt,tt,tt,tt,tt,tt,tt,tt,tt,ff,ff,ff,ff] rfl rfl (any_of HT_.out (by kernel_rfl)) (fun _ _ _ h => h) (Or.inr ⟨by rfl, rfl⟩) ?_ ?_
          rotate_left
          ·simp only [Act.put, setA, setZ, setS, i64_w, i32_w]
           rfl
          refine pure_ (i := 25) (N := some 64) (v := undef) (a' := ?_) #[tt,tt,tt,tt,tt,tt,tt,tt,tt,tt,tt,tt,tt,tt,tt,tt,tt,tt,tt,tt,tt,tt,tt,tt,tt,tt,ff,ff,ff] rfl rfl (any_of HT_.out (by kernel_rfl)) (fun _ _ _ h => h) (Or.inr ⟨by rfl, rfl⟩) ?_ ?_
          rotate_left
          ·simp only [Act.put, setA, setZ, setS, i64_w, i32_w]
           rfl
          refine pure_ (i := 26) (N := some 65) (v := undef) (a' := ?_) #[tt,tt,tt,tt,tt,tt,tt,tt,tt,tt,tt,tt,tt,tt,tt,tt,tt,tt,tt,tt,tt,tt,tt,tt,tt,tt,tt,ff,ff] rfl rfl (any_of HT_.out (by kernel_rfl)) (fun _ _ _ h => h) (Or.inr ⟨by rfl, rfl⟩) ?_ ?_
          rotate_left
          ·simp only [Act.put, setA, setZ, setS, i64_w, i32_w]
           rfl
          refine pure_ (i := 27) (N := some 66) (v := ?_) (a' := ?_) #[tt,tt,tt,tt,tt,tt,tt,tt,tt,tt,tt,tt,tt,tt,tt,tt,tt,tt,tt,tt,tt,tt,tt,tt,tt,tt,tt,tt,ff] rfl rfl (any_of HT_.out (by kernel_rfl)) (fun _ _ _ h => h) (Or.inl ⟨by rfl, ?_⟩) ?_ ?_
          rotate_left
          ·intro w'
           go_simp
           with_reducible rfl
          rotate_left
          ·simp only [Act.put, setA, setZ, setS, i64_w, i32_w]
           rfl
          refine pure_ (i := 28) (N := some 4) (v := ?_) (a' := ?_) #[tt,tt,tt,tt,tt,tt,tt,tt,tt,tt,tt,tt,tt,tt,tt,tt,tt,tt,tt,tt,tt,tt,tt,tt,tt,tt,tt,tt,tt] rfl rfl (any_of HT_.out (by kernel_rfl)) (fun _ _ _ h => h) (Or.inl ⟨by rfl, ?_⟩) ?_ ?_
          rotate_left
          ·intro w'
           go_simp
           with_reducible rfl
          rotate_left
          ·simp only [Act.put, setA, setZ, setS, i64_w, i32_w]
           rfl
          refine done_ (done_of HT_.out (by kernel_rfl)) ?_
          try go_wp2
          go_ret
          exact ⟨by first | rfl | (simp [errW_none, errW_some] <;> rfl) | (simp [errW_none, errW_some] <;> first | rfl | exact isEmpty_bne _) | (simp [*, errW_none, errW_some] <;> rfl), by repeat (first | (with_reducible first | exact HB.out | apply below_alloc | apply pw_below_drewN | apply below_drew1 | refine below_set ?_ GE283.out | refine below_set ?_ GE284.out | refine below_set ?_ GE297.out | refine below_set ?_ GE298.out) | exact HB.out)⟩
        ·rw [if_neg c79] at H
         have c79b0 : (t308.toList == t309.toList) = false := beq_eq_false_iff_ne.mpr c79
         have c79b1 : (t308.toList != t309.toList) = true := bne_iff_ne.mpr c79
         obtain rfl := Option.some.inj H
         try go_wp2
         have n0_ := Aside0.mk (blk_drew BK283.out)
         have n1_ := Aside0.mk (blk_drew BK284.out)
         have n2_ := Aside0.mk (blk_drew BK297.out)
         have n3_ := Aside0.mk (blk_drew BK298.out)
         have n4_ := Aside0.mk (below_drew1 HB.out)
         clear BK283
         clear BK284
         clear BK297
         clear BK298
         clear HB
         have BK283 := n0_
         have BK284 := n1_
         have BK297 := n2_
         have BK298 := n3_
         have HB := n4_
         clear n0_ n1_ n2_ n3_ n4_
         refine start_ (n := 29) (S := fun w' => w'.cell? ⟨gb283, 0, none⟩ = some (.int .i64 t285) ∧ w'.cell? ⟨gb283, 1, none⟩ = some (.int .i64 t286) ∧ w'.cell? ⟨gb283, 2, none⟩ = some (.string t287) ∧ w'.cell? ⟨gb297, 0, none⟩ = some (.int .i64 t291) ∧ w'.cell? ⟨gb297, 1, none⟩ = some (.int .i64 t292) ∧ w'.cell? ⟨gb297, 2, none⟩ = some (.string t293)) (ds := []) #[ff,ff,ff,ff,ff,ff,ff,ff,ff,ff,ff,ff,ff,ff,ff,ff,ff,ff,ff,ff,ff,ff,ff,ff,ff,ff,ff,ff,ff] (by kernel_rfl) rfl rfl ⟨(blk_cell BK283.out 0).trans rfl, (blk_cell BK283.out 1).trans rfl, (blk_cell BK283.out 2).trans rfl, (blk_cell BK297.out 0).trans rfl, (blk_cell BK297.out 1).trans rfl, (blk_cell BK297.out 2).trans rfl⟩ (fun hHeld => ?_); refine with_tabW scribelaw06_CellIs.tab7 scribelaw06_CellIs.bits7 (fun HT_ HW_ => ?_)
         generalize wc.drew = w101 at BK283 BK284 BK297 BK298 HB hHeld ⊢
         refine take_ (i := 0) (N := some 39) (v := ?_) (a' := ?_) #[tt,ff,ff,ff,ff,ff,ff,ff,ff,ff,ff,ff,ff,ff,ff,ff,ff,ff,ff,ff,ff,ff,ff,ff,ff,ff,ff,ff,ff] rfl rfl (take_ofW HT_.out HW_.out (by kernel_rfl)) (fun _ _ _ h => h) (Or.inl ⟨by rfl, ?_⟩) hHeld ?_ ?_
         rotate_left
         ·rintro w' ⟨s0, s1, s2, s3, s4, s5⟩
          go_simp
          with_reducible rfl
         rotate_left
         ·simp only [Act.put, setA, setZ, setS, i64_w, i32_w]
          rfl
         refine take_ (i := 2) (N := some 41) (v := ?_) (a' := ?_) #[tt,ff,tt,ff,ff,ff,ff,ff,ff,ff,ff,ff,ff,ff,ff,ff,ff,ff,ff,ff,ff,ff,ff,ff,ff,ff,ff,ff,ff] rfl rfl (take_ofW HT_.out HW_.out (by kernel_rfl)) (fun _ _ _ h => h) (Or.inl ⟨by rfl, ?_⟩) hHeld ?_ ?_
         rotate_left
         ·rintro w' ⟨s0, s1, s2, s3, s4, s5⟩
          go_simp
          with_reducible rfl
         rotate_left
         ·simp only [Act.put, setA, setZ, setS, i64_w, i32_w]
          rfl
         refine one_ (i := 1) (N := some 40) #[tt,tt,tt,ff,ff,ff,ff,ff,ff,ff,ff,ff,ff,ff,ff,ff,ff,ff,ff,ff,ff,ff,ff,ff,ff,ff,ff,ff,ff] rfl rfl (one_of HT_.out (by kernel_rfl)) (by decide) (fun K hK => ?_)
         refine goes_ Tryd.func20 (by kernel_rfl) rfl #[.agg #[.int .i64 t285, .int .i64 t286, .string t287]] (by rfl) rfl rfl (by (try simp only [List.map_toArray, List.map_cons, List.map_nil]); first | done | rfl | (simp only [List.length_drop, List.length_take]; rfl)) ?_
         with_reducible refine (cell_Cell_Num.calls kj54 t285 t286 t287 t306 _ ?side1 A74.out).mono ?_
         (case side1 => exact TB.below hT HB.out)
         rintro e w102 ⟨rfl, hb⟩
         refine ⟨_, rfl, ?_⟩
         have n0_ := Aside0.mk (blk_below BK283.out hb)
         have n1_ := Aside0.mk (blk_below BK284.out hb)
         have n2_ := Aside0.mk (blk_below BK297.out hb)
         have n3_ := Aside0.mk (blk_below BK298.out hb)
         have n4_ := Aside0.mk (below_step HB.out hb)
         clear BK283
         clear BK284
         clear BK297
         clear BK298
         clear HB
         have BK283 := n0_
         have BK284 := n1_
         have BK297 := n2_
         have BK298 := n3_
         have HB := n4_
         clear n0_ n1_ n2_ n3_ n4_
         (try clear hb)
         (try clear hb2)
         (try clear hk)
         (try clear hi)
         refine hK.out _ _ ⟨(blk_cell BK283.out 0).trans rfl, (blk_cell BK283.out 1).trans rfl, (blk_cell BK283.out 2).trans rfl, (blk_cell BK297.out 0).trans rfl, (blk_cell BK297.out 1).trans rfl, (blk_cell BK297.out 2).trans rfl⟩ (fun hHeld => ?_)
         clear hK K
         refine norm_ (a' := ?_) ?_ ?_
         rotate_left
         ·show Act.put _ (some 40) _ = _
          simp only [Act.put, setA, setZ, setS, i64_w, i32_w]
          rfl
         refine one_ (i := 3) (N := some 42) #[tt,tt,tt,tt,ff,ff,ff,ff,ff,ff,ff,ff,ff,ff,ff,ff,ff,ff,ff,ff,ff,ff,ff,ff,ff,ff,ff,ff,ff] rfl rfl (one_of HT_.out (by kernel_rfl)) (by decide) (fun K hK => ?_)
         refine goes_ Tryd.func23 (by kernel_rfl) rfl #[.agg #[.int .i64 t291, .int .i64 t292, .string t293]] (by rfl) rfl rfl (by (try simp only [List.map_toArray, List.map_cons, List.map_nil]); first | done | rfl | (simp only [List.length_drop, List.length_take]; rfl)) ?_
         with_reducible refine (scriberef06_Num.calls kj54 t291 t292 t293 t307 _ ?side1 A75.out).mono ?_
         (case side1 => exact TB.below hT HB.out)
         rintro e w103 ⟨rfl, hb⟩
         refine ⟨_, rfl, ?_⟩
         have n0_ := Aside0.mk (blk_below BK283.out hb)
         have n1_ := Aside0.mk (blk_below BK284.out hb)
         have n2_ := Aside0.mk (blk_below BK297.out hb)
         have n3_ := Aside0.mk (blk_below BK298.out hb)
         have n4_ := Aside0.mk (below_step HB.out hb)
         clear BK283
         clear BK284
         clear BK297
         clear BK298
         clear HB
         have BK283 := n0_
         have BK284 := n1_
         have BK297 := n2_
         have BK298 := n3_
         have HB := n4_
         clear n0_ n1_ n2_ n3_ n4_
         (try clear hb)
         (try clear hb2)
         (try clear hk)
         (try clear hi)
         refine hK.out _ _ ⟨(blk_cell BK283.out 0).trans rfl, (blk_cell BK283.out 1).trans rfl, (blk_cell BK283.out 2).trans rfl, (blk_cell BK297.out 0).trans rfl, (blk_cell BK297.out 1).trans rfl, (blk_cell BK297.out 2).trans rfl⟩ (fun hHeld => ?_)
         clear hK K
         refine norm_ (a' := ?_) ?_ ?_
         rotate_left
         ·show Act.put _ (some 42) _ = _
          simp only [Act.put, setA, setZ, setS, i64_w, i32_w]
          rfl
         refine pure_ (i := 4) (N := some 43) (v := ?_) (a' := ?_) #[tt,tt,tt,tt,tt,ff,ff,ff,ff,ff,ff,ff,ff,ff,ff,ff,ff,ff,ff,ff,ff,ff,ff,ff,ff,ff,ff,ff,ff] rfl rfl (any_of HT_.out (by kernel_rfl)) (fun _ _ _ h => h) (Or.inl ⟨by rfl, ?_⟩) ?_ ?_
         rotate_left
         ·intro w'
          go_simp
          with_reducible rfl
         rotate_left
         ·simp only [Act.put, setA, setZ, setS, i64_w, i32_w]
          rfl
         refine pure_ (i := 5) (N := some 44) (v := ?_) (a' := ?_) #[tt,tt,tt,tt,tt,tt,ff,ff,ff,ff,ff,ff,ff,ff,ff,ff,ff,ff,ff,ff,ff,ff,ff,ff,ff,ff,ff,ff,ff] rfl rfl (any_of HT_.out (by kernel_rfl)) (fun _ _ _ h => h) (Or.inl ⟨by rfl, ?_⟩) ?_ ?_
         rotate_left
         ·intro w'
          go_simp
          with_reducible rfl
         rotate_left
         ·simp only [Act.put, setA, setZ, setS, i64_w, i32_w]
          rfl
         refine take_ (i := 6) (N := some 45) (v := ?_) (a' := ?_) #[tt,tt,tt,tt,tt,tt,tt,ff,ff,ff,ff,ff,ff,ff,ff,ff,ff,ff,ff,ff,ff,ff,ff,ff,ff,ff,ff,ff,ff] rfl rfl (take_ofW HT_.out HW_.out (by kernel_rfl)) (fun _ _ _ h => h) (Or.inl ⟨by rfl, ?_⟩) hHeld ?_ ?_
         rotate_left
         ·rintro w' ⟨s0, s1, s2, s3, s4, s5⟩
          go_simp
          with_reducible rfl
         rotate_left
         ·simp only [Act.put, setA, setZ, setS, i64_w, i32_w]
          rfl
         refine take_ (i := 8) (N := some 47) (v := ?_) (a' := ?_) #[tt,tt,tt,tt,tt,tt,tt,ff,tt,ff,ff,ff,ff,ff,ff,ff,ff,ff,ff,ff,ff,ff,ff,ff,ff,ff,ff,ff,ff] rfl rfl (take_ofW HT_.out HW_.out (by kernel_rfl)) (fun _ _ _ h => h) (Or.inl ⟨by rfl, ?_⟩) hHeld ?_ ?_
         rotate_left
         ·rintro w' ⟨s0, s1, s2, s3, s4, s5⟩
          go_simp
          with_reducible rfl
         rotate_left
         ·simp only [Act.put, setA, setZ, setS, i64_w, i32_w]
          rfl
         refine one_ (i := 7) (N := some 46) #[tt,tt,tt,tt,tt,tt,tt,tt,tt,ff,ff,ff,ff,ff,ff,ff,ff,ff,ff,ff,ff,ff,ff,ff,ff,ff,ff,ff,ff] rfl rfl (one_of HT_.out (by kernel_rfl)) (by decide) (fun K hK => ?_)
         refine goes_ Tryd.func19 (by kernel_rfl) rfl #[.agg #[.int .i64 t285, .int .i64 t286, .string t287]] (by rfl) rfl rfl (by (try simp only [List.map_toArray, List.map_cons, List.map_nil]); first | done | rfl | (simp only [List.length_drop, List.length_take]; rfl)) ?_
         with_reducible refine (cell_Cell_Str.calls kj54 t285 t286 t287 t308 _ ?side1 A77.out).mono ?_
         (case side1 => exact TB.below hT HB.out)
         rintro e w104 ⟨rfl, hb⟩
         refine ⟨_, rfl, ?_⟩
         have n0_ := Aside0.mk (blk_below BK283.out hb)
         have n1_ := Aside0.mk (blk_below BK284.out hb)
         have n2_ := Aside0.mk (blk_below BK297.out hb)
         have n3_ := Aside0.mk (blk_below BK298.out hb)
         have n4_ := Aside0.mk (below_step HB.out hb)
         clear BK283
         clear BK284
         clear BK297
         clear BK298
         clear HB
         have BK283 := n0_
         have BK284 := n1_
         have BK297 := n2_
         have BK298 := n3_
         have HB := n4_
         clear n0_ n1_ n2_ n3_ n4_
         (try clear hb)
         (try clear hb2)
         (try clear hk)
         (try clear hi)
         refine hK.out _ _ ⟨(blk_cell BK283.out 0).trans rfl, (blk_cell BK283.out 1).trans rfl, (blk_cell BK283.out 2).trans rfl, (blk_cell BK297.out 0).trans rfl, (blk_cell BK297.out 1).trans rfl, (blk_cell BK297.out 2).trans rfl⟩ (fun hHeld => ?_)
         clear hK K
         refine norm_ (a' := ?_) ?_ ?_
         rotate_left
         ·show Act.put _ (some 46) _ = _
          simp only [Act.put, setA, setZ, setS, i64_w, i32_w]
          rfl
         refine one_ (i := 9) (N := some 48) #[tt,tt,tt,tt,tt,tt,tt,tt,tt,tt,ff,ff,ff,ff,ff,ff,ff,ff,ff,ff,ff,ff,ff,ff,ff,ff,ff,ff,ff] rfl rfl (one_of HT_.out (by kernel_rfl)) (by decide) (fun K hK => ?_)
         refine goes_ Tryd.func24 (by kernel_rfl) rfl #[.agg #[.int .i64 t291, .int .i64 t292, .string t293]] (by rfl) rfl rfl (by (try simp only [List.map_toArray, List.map_cons, List.map_nil]); first | done | rfl | (simp only [List.length_drop, List.length_take]; rfl)) ?_
         with_reducible refine (scriberef06_Str.calls kj54 t291 t292 t293 t309 _ ?side1 A78.out).mono ?_
         (case side1 => exact TB.below hT HB.out)
         rintro e w105 ⟨rfl, hb⟩
         refine ⟨_, rfl, ?_⟩
         have n0_ := Aside0.mk (blk_below BK283.out hb)
         have n1_ := Aside0.mk (blk_below BK284.out hb)
         have n2_ := Aside0.mk (blk_below BK297.out hb)
         have n3_ := Aside0.mk (blk_below BK298.out hb)
         have n4_ := Aside0.mk (below_step HB.out hb)
         clear BK283
         clear BK284
         clear BK297
         clear BK298
         clear HB
         have BK283 := n0_
         have BK284 := n1_
         have BK297 := n2_
         have BK298 := n3_
         have HB := n4_
         clear n0_ n1_ n2_ n3_ n4_
         (try clear hb)
         (try clear hb2)
         (try clear hk)
         (try clear hi)
         refine hK.out _ _ ⟨(blk_cell BK283.out 0).trans rfl, (blk_cell BK283.out 1).trans rfl, (blk_cell BK283.out 2).trans rfl, (blk_cell BK297.out 0).trans rfl, (blk_cell BK297.out 1).trans rfl, (blk_cell BK297.out 2).trans rfl⟩ (fun hHeld => ?_)
         clear hK K
         refine norm_ (a' := ?_) ?_ ?_
         rotate_left
         ·show Act.put _ (some 48) _ = _
          simp only [Act.put, setA, setZ, setS, i64_w, i32_w]
          rfl
         refine pure_ (i := 10) (N := some 49) (v := ?_) (a' := ?_) #[tt,tt,tt,tt,tt,tt,tt,tt,tt,tt,tt,ff,ff,ff,ff,ff,ff,ff,ff,ff,ff,ff,ff,ff,ff,ff,ff,ff,ff] rfl rfl (any_of HT_.out (by kernel_rfl)) (fun _ _ _ h => h) (Or.inl ⟨by rfl, ?_⟩) ?_ ?_
         rotate_left
         ·intro w'
          go_simp
          with_reducible rfl
         rotate_left
         ·simp only [Act.put, setA, setZ, setS, i64_w, i32_w]
          rfl
         refine pure_ (i := 11) (N := some 50) (v := ?_) (a' := ?_) #[tt,tt,tt,tt,tt,tt,tt,tt,tt,tt,tt,tt,ff,ff,ff,ff,ff,ff,ff,ff,ff,ff,ff,ff,ff,ff,ff,ff,ff] rfl rfl (any_of HT_.out (by kernel_rfl)) (fun _ _ _ h => h) (Or.inl ⟨by rfl, ?_⟩) ?_ ?_
         rotate_left
         ·intro w'
          go_simp
          with_reducible rfl
         rotate_left
         ·simp only [Act.put, setA, setZ, setS, i64_w, i32_w]
          rfl
         refine pure_ (i := 12) (N := some 51) (v := ?_) (a' := ?_) #[tt,tt,tt,tt,tt,tt,tt,tt,tt,tt,tt,tt,tt,ff,ff,ff,ff,ff,ff,ff,ff,ff,ff,ff,ff,ff,ff,ff,ff] rfl rfl (any_of HT_.out (by kernel_rfl)) (fun _ _ _ h => h) (Or.inl ⟨by rfl, ?_⟩) ?_ ?_
         rotate_left
         ·intro w'
          go_simp
          with_reducible rfl
         rotate_left
         ·simp only [Act.put, setA, setZ, setS, i64_w, i32_w]
          rfl
         refine pure_ (i := 13) (N := some 52) (v := undef) (a' := ?_) #[tt,tt,tt,tt,tt,tt,tt,tt,tt,tt,tt,tt,tt,tt,ff,ff,ff,ff,ff,ff,ff,ff,ff,ff,ff,ff,ff,ff,ff] rfl rfl (any_of HT_.out (by kernel_rfl)) (fun _ _ _ h => h) (Or.inr ⟨by rfl, rfl⟩) ?_ ?_
         rotate_left
         ·simp only [Act.put, setA, setZ, setS, i64_w, i32_w]
          rfl
         refine pure_ (i := 14) (N := some 53) (v := undef) (a' := ?_) #[tt,tt,tt,tt,tt,tt,tt,tt,tt,tt,tt,tt,tt,tt,tt,ff,ff,ff,ff,ff,ff,ff,ff,ff,ff,ff,ff,ff,ff] rfl rfl (any_of HT_.out (by kernel_rfl)) (fun _ _ _ h => h) (Or.inr ⟨by rfl, rfl⟩) ?_ ?_
         rotate_left
         ·simp only [Act.put, setA, setZ, setS, i64_w, i32_w]
          rfl
         refine pure_ (i := 15) (N := some 54) (v := undef) (a' := ?_) #[tt,tt,tt,tt,tt,tt,tt,tt,tt,tt,tt,tt,tt,tt,tt,tt,ff,ff,ff,ff,ff,ff,ff,ff,ff,ff,ff,ff,ff] rfl rfl (any_of HT_.out (by kernel_rfl)) (fun _ _ _ h => h) (Or.inr ⟨by rfl, rfl⟩) ?_ ?_
         rotate_left
         ·simp only [Act.put, setA, setZ, setS, i64_w, i32_w]
          rfl
         refine pure_ (i := 16) (N := some 55) (v := undef) (a' := ?_) #[tt,tt,tt,tt,tt,tt,tt,tt,tt,tt,tt,tt,tt,tt,tt,tt,tt,ff,ff,ff,ff,ff,ff,ff,ff,ff,ff,ff,ff] rfl rfl (any_of HT_.out (by kernel_rfl)) (fun _ _ _ h => h) (Or.inr ⟨by rfl, rfl⟩) ?_ ?_
         rotate_left
         ·simp only [Act.put, setA, setZ, setS, i64_w, i32_w]
          rfl
         refine pure_ (i := 17) (N := some 56) (v := undef) (a' := ?_) #[tt,tt,tt,tt,tt,tt,tt,tt,tt,tt,tt,tt,tt,tt,tt,tt,tt,tt,ff,ff,ff,ff,ff,ff,ff,ff,ff,ff,ff] rfl rfl (any_of HT_.out (by kernel_rfl)) (fun _ _ _ h => h) (Or.inr ⟨by rfl, rfl⟩) ?_ ?_
         rotate_left
         ·simp only [Act.put, setA, setZ, setS, i64_w, i32_w]
          rfl
         refine pure_ (i := 18) (N := some 57) (v := ?_) (a' := ?_) #[tt,tt,tt,tt,tt,tt,tt,tt,tt,tt,tt,tt,tt,tt,tt,tt,tt,tt,tt,ff,ff,ff,ff,ff,ff,ff,ff,ff,ff] rfl rfl (any_of HT_.out (by kernel_rfl)) (fun _ _ _ h => h) (Or.inl ⟨by rfl, ?_⟩) ?_ ?_
         rotate_left
         ·intro w'
          go_simp
          with_reducible rfl
         rotate_left
         ·simp only [Act.put, setA, setZ, setS, i64_w, i32_w]
          rfl
         refine pure_ (i := 19) (N := some 58) (v := ?_) (a' := ?_) #[tt,tt,tt,tt,tt,tt,tt,tt,tt,tt,tt,tt,tt,tt,tt,tt,tt,tt,tt,tt,ff,ff,ff,ff,ff,ff,ff,ff,ff] rfl rfl (any_of HT_.out (by kernel_rfl)) (fun _ _ _ h => h) (Or.inl ⟨by rfl, ?_⟩) ?_ ?_
         rotate_left
         ·intro w'
          go_simp
          with_reducible rfl
         rotate_left
         ·simp only [Act.put, setA, setZ, setS, i64_w, i32_w]
          rfl
         refine pure_ (i := 20) (N := some 59) (v := undef) (a' := ?_) #[tt,tt,tt,tt,tt,tt,tt,tt,tt,tt,tt,tt,tt,tt,tt,tt,tt,tt,tt,tt,tt,ff,ff,ff,ff,ff,ff,ff,ff] rfl rfl (any_of HT_.out (by kernel_rfl)) (fun _ _ _ h => h) (Or.inr ⟨by rfl, rfl⟩) ?_ ?_
         rotate_left
         ·simp only [Act.put, setA, setZ, setS, i64_w, i32_w]
          rfl
         refine pure_ (i := 21) (N := some 60) (v := undef) (a' := ?_) #[tt,tt,tt,tt,tt,tt,tt,tt,tt,tt,tt,tt,tt,tt,tt,tt,tt,tt,tt,tt,tt,tt,ff,ff,ff,ff,ff,ff,ff] rfl rfl (any_of HT_.out (by kernel_rfl)) (fun _ _ _ h => h) (Or.inr ⟨by rfl, rfl⟩) ?_ ?_
         rotate_left
         ·simp only [Act.put, setA, setZ, setS, i64_w, i32_w]
          rfl
         refine pure_ (i := 22) (N := some 61) (v := undef) (a' := ?_) #[tt,tt,tt,tt,tt,tt,tt,tt,tt,tt,tt,tt,tt,tt,tt,tt,tt,tt,tt,tt,tt,tt,tt,ff,ff,ff,ff,ff,ff] rfl rfl (any_of HT_.out (by kernel_rfl)) (fun _ _ _ h => h) (Or.inr ⟨by rfl, rfl⟩) ?_ ?_
         rotate_left
         ·simp only [Act.put, setA, setZ, setS, i64_w, i32_w]
          rfl
         refine pure_ (i := 23) (N := some 62) (v := undef) (a' := ?_) #[tt,tt,tt,tt,tt,tt,tt,tt,tt,tt,tt,tt,tt,tt,tt,tt,tt,tt,tt,tt,tt,tt,tt,tt,ff,ff,ff,ff,ff] rfl rfl (any_of HT_.out (by kernel_rfl)) (fun _ _ _ h => h) (Or.inr ⟨by rfl, rfl⟩) ?_ ?_
         rotate_left
         ·simp only [Act.put, setA, setZ, setS, i64_w, i32_w]
          rfl
         refine pure_ (i := 24) (N := some 63) (v := undef) (a' := ?_) #[tt,tt,tt,tt,tt,tt,tt,tt,tt,tt,tt,tt,tt,tt,tt,tt,tt,tt,tt,tt,tt,tt,tt,tt,tt,ff,ff,ff,ff] rfl rfl (any_of HT_.out (by kernel_rfl)) (fun _ _ _ h => h) (Or.inr ⟨by rfl, rfl⟩) ?_ ?_
         rotate_left
         ·simp only [Act.put, setA, setZ, setS, i64_w, i32_w]
          rfl
         refine pure_ (i := 25) (N := some 64) (v := undef) (a' := ?_) #[tt,tt,tt,tt,tt,tt,tt,tt,tt,tt,tt,tt,tt,tt,tt,tt,tt,tt,tt,tt,tt,tt,tt,tt,tt,tt,ff,ff,ff] rfl rfl (any_of HT_.out (by kernel_rfl)) (fun _ _ _ h => h) (Or.inr ⟨by rfl, rfl⟩) ?_ ?_
         rotate_left
         ·simp only [Act.put, setA, setZ, setS, i64_w, i32_w]
          rfl
         refine pure_ (i := 26) (N := some 65) (v := undef) (a' := ?_) #[tt,tt,tt,tt,tt,tt,tt,tt,tt,tt,tt,tt,tt,tt,tt,tt,tt,tt,tt,tt,tt,tt,tt,tt,tt,tt,tt,ff,ff] rfl rfl (any_of HT_.out (by kernel_rfl)) (fun _ _ _ h => h) (Or.inr ⟨by rfl, rfl⟩) ?_ ?_
         rotate_left
         ·simp only [Act.put, setA, setZ, setS, i64_w, i32_w]
          rfl
         refine pure_ (i := 27) (N := some 66) (v := ?_) (a' := ?_) #[tt,tt,tt,tt,tt,tt,tt,tt,tt,tt,tt,tt,tt,tt,tt,tt,tt,tt,tt,tt,tt,tt,tt,tt,tt,tt,tt,tt,ff] rfl rfl (any_of HT_.out (by kernel_rfl)) (fun _ _ _ h => h) (Or.inl ⟨by rfl, ?_⟩) ?_ ?_
         rotate_left
         ·intro w'
          go_simp
          with_reducible rfl
         rotate_left
         ·simp only [Act.put, setA, setZ, setS, i64_w, i32_w]
          rfl
         refine pure_ (i := 28) (N := some 4) (v := ?_) (a' := ?_) #[tt,tt,tt,tt,tt,tt,tt,tt,tt,tt,tt,tt,tt,tt,tt,tt,tt,tt,tt,tt,tt,tt,tt,tt,tt,tt,tt,tt,tt] rfl rfl (any_of HT_.out (by kernel_rfl)) (fun _ _ _ h => h) (Or.inl ⟨by rfl, ?_⟩) ?_ ?_
         rotate_left
         ·intro w'
          go_simp
          with_reducible rfl
         rotate_left
         ·simp only [Act.put, setA, setZ, setS, i64_w, i32_w]
          rfl
         refine done_ (done_of HT_.out (by kernel_rfl)) ?_
         try go_wp2
         go_ret
         exact ⟨by first | rfl | (simp [errW_none, errW_some] <;> rfl) | (simp [errW_none, errW_some] <;> first | rfl | exact isEmpty_bne _) | (simp [*, errW_none, errW_some] <;> rfl), by repeat (first | (with_reducible first | exact HB.out | apply below_alloc | apply pw_below_drewN | apply below_drew1 | refine below_set ?_ GE283.out | refine below_set ?_ GE284.out | refine below_set ?_ GE297.out | refine below_set ?_ GE298.out) | exact HB.out)⟩
       ·rw [if_neg c76] at H
        have c76b0 : (t306 == t307) = false := beq_eq_false_iff_ne.mpr c76
        have c76b1 : (t306 != t307) = true := bne_iff_ne.mpr c76
        obtain rfl := Option.some.inj H
        try go_wp2
        have n0_ := Aside0.mk (blk_drew BK283.out)
        have n1_ := Aside0.mk (blk_drew BK284.out)
        have n2_ := Aside0.mk (blk_drew BK297.out)
        have n3_ := Aside0.mk (blk_drew BK298.out)
        have n4_ := Aside0.mk (below_drew1 HB.out)
        clear BK283
        clear BK284
        clear BK297
        clear BK298
        clear HB
        have BK283 := n0_
        have BK284 := n1_
        have BK297 := n2_
        have BK298 := n3_
        have HB := n4_
        clear n0_ n1_ n2_ n3_ n4_
        refine start_ (n := 29) (S := fun w' => w'.cell? ⟨gb283, 0, none⟩ = some (.int .i64 t285) ∧ w'.cell? ⟨gb283, 1, none⟩ = some (.int .i64 t286) ∧ w'.cell? ⟨gb283, 2, none⟩ = some (.string t287) ∧ w'.cell? ⟨gb297, 0, none⟩ = some (.int .i64 t291) ∧ w'.cell? ⟨gb297, 1, none⟩ = some (.int .i64 t292) ∧ w'.cell? ⟨gb297, 2, none⟩ = some (.string t293)) (ds := []) #[ff,ff,ff,ff,ff,ff,ff,ff,ff,ff,ff,ff,ff,ff,ff,ff,ff,ff,ff,ff,ff,ff,ff,ff,ff,ff,ff,ff,ff] (by kernel_rfl) rfl rfl ⟨(blk_cell BK283.out 0).trans rfl, (blk_cell BK283.out 1).trans rfl, (blk_cell BK283.out 2).trans rfl, (blk_cell BK297.out 0).trans rfl, (blk_cell BK297.out 1).trans rfl, (blk_cell BK297.out 2).trans rfl⟩ (fun hHeld => ?_); refine with_tabW scribelaw06_CellIs.tab7 scribelaw06_CellIs.bits7 (fun HT_ HW_ => ?_)
        generalize wc.drew = w106 at BK283 BK284 BK297 BK298 HB hHeld ⊢
        refine take_ (i := 0) (N := some 39) (v := ?_) (a' := ?_) #[tt,ff,ff,ff,ff,ff,ff,ff,ff,ff,ff,ff,ff,ff,ff,ff,ff,ff,ff,ff,ff,ff,ff,ff,ff,ff,ff,ff,ff] rfl rfl (take_ofW HT_.out HW_.out (by kernel_rfl)) (fun _ _ _ h => h) (Or.inl ⟨by rfl, ?_⟩) hHeld ?_ ?_
        rotate_left
        ·rintro w' ⟨s0, s1, s2, s3, s4, s5⟩
         go_simp
         with_reducible rfl
        rotate_left
        ·simp only [Act.put, setA, setZ, setS, i64_w, i32_w]
         rfl
        refine take_ (i := 2) (N := some 41) (v := ?_) (a' := ?_) #[tt,ff,tt,ff,ff,ff,ff,ff,ff,ff,ff,ff,ff,ff,ff,ff,ff,ff,ff,ff,ff,ff,ff,ff,ff,ff,ff,ff,ff] rfl rfl (take_ofW HT_.out HW_.out (by kernel_rfl)) (fun _ _ _ h => h) (Or.inl ⟨by rfl, ?_⟩) hHeld ?_ ?_
        rotate_left
        ·rintro w' ⟨s0, s1, s2, s3, s4, s5⟩
         go_simp
         with_reducible rfl
        rotate_left
        ·simp only [Act.put, setA, setZ, setS, i64_w, i32_w]
         rfl
        refine one_ (i := 1) (N := some 40) #[tt,tt,tt,ff,ff,ff,ff,ff,ff,ff,ff,ff,ff,ff,ff,ff,ff,ff,ff,ff,ff,ff,ff,ff,ff,ff,ff,ff,ff] rfl rfl (one_of HT_.out (by kernel_rfl)) (by decide) (fun K hK => ?_)
        refine goes_ Tryd.func20 (by kernel_rfl) rfl #[.agg #[.int .i64 t285, .int .i64 t286, .string t287]] (by rfl) rfl rfl (by (try simp only [List.map_toArray, List.map_cons, List.map_nil]); first | done | rfl | (simp only [List.length_drop, List.length_take]; rfl)) ?_
        with_reducible refine (cell_Cell_Num.calls kj54 t285 t286 t287 t306 _ ?side1 A74.out).mono ?_
        (case side1 => exact TB.below hT HB.out)
        rintro e w107 ⟨rfl, hb⟩
        refine ⟨_, rfl, ?_⟩
        have n0_ := Aside0.mk (blk_below BK283.out hb)
        have n1_ := Aside0.mk (blk_below BK284.out hb)
        have n2_ := Aside0.mk (blk_below BK297.out hb)
        have n3_ := Aside0.mk (blk_below BK298.out hb)
        have n4_ := Aside0.mk (below_step HB.out hb)
        clear BK283
        clear BK284
        clear BK297
        clear BK298
        clear HB
        have BK283 := n0_
        have BK284 := n1_
        have BK297 := n2_
        have BK298 := n3_
        have HB := n4_
        clear n0_ n1_ n2_ n3_ n4_
        (try clear hb)
        (try clear hb2)
        (try clear hk)
        (try clear hi)
        refine hK.out _ _ ⟨(blk_cell BK283.out 0).trans rfl, (blk_cell BK283.out 1).trans rfl, (blk_cell BK283.out 2).trans rfl, (blk_cell BK297.out 0).trans rfl, (blk_cell BK297.out 1).trans rfl, (blk_cell BK297.out 2).trans rfl⟩ (fun hHeld => ?_)
        clear hK K
        refine norm_ (a' := ?_) ?_ ?_
        rotate_left
        ·show Act.put _ (some 40) _ = _
         simp only [Act.put, setA, setZ, setS, i64_w, i32_w]
         rfl
        refine one_ (i := 3) (N := some 42) #[tt,tt,tt,tt,ff,ff,ff,ff,ff,ff,ff,ff,ff,ff,ff,ff,ff,ff,ff,ff,ff,ff,ff,ff,ff,ff,ff,ff,ff] rfl rfl (one_of HT_.out (by kernel_rfl)) (by decide) (fun K hK => ?_)
        refine goes_ Tryd.func23 (by kernel_rfl) rfl #[.agg #[.int .i64 t291, .int .i64 t292, .string t293]] (by rfl) rfl rfl (by (try simp only [List.map_toArray, List.map_cons, List.map_nil]); first | done | rfl | (simp only [List.length_drop, List.length_take]; rfl)) ?_
        with_reducible refine (scriberef06_Num.calls kj54 t291 t292 t293 t307 _ ?side1 A75.out).mono ?_
        (case side1 => exact TB.below hT HB.out)
        rintro e w108 ⟨rfl, hb⟩
        refine ⟨_, rfl, ?_⟩
        have n0_ := Aside0.mk (blk_below BK283.out hb)
        have n1_ := Aside0.mk (blk_below BK284.out hb)
        have n2_ := Aside0.mk (blk_below BK297.out hb)
        have n3_ := Aside0.mk (blk_below BK298.out hb)
        have n4_ := Aside0.mk (below_step HB.out hb)
        clear BK283
        clear BK284
        clear BK297
        clear BK298
        clear HB
        have BK283 := n0_
        have BK284 := n1_
        have BK297 := n2_
        have BK298 := n3_
        have HB := n4_
        clear n0_ n1_ n2_ n3_ n4_
        (try clear hb)
        (try clear hb2)
        (try clear hk)
        (try clear hi)
        refine hK.out _ _ ⟨(blk_cell BK283.out 0).trans rfl, (blk_cell BK283.out 1).trans rfl, (blk_cell BK283.out 2).trans rfl, (blk_cell BK297.out 0).trans rfl, (blk_cell BK297.out 1).trans rfl, (blk_cell BK297.out 2).trans rfl⟩ (fun hHeld => ?_)
        clear hK K
        refine norm_ (a' := ?_) ?_ ?_
        rotate_left
        ·show Act.put _ (some 42) _ = _
         simp only [Act.put, setA, setZ, setS, i64_w, i32_w]
         rfl
        refine pure_ (i := 4) (N := some 43) (v := ?_) (a' := ?_) #[tt,tt,tt,tt,tt,ff,ff,ff,ff,ff,ff,ff,ff,ff,ff,ff,ff,ff,ff,ff,ff,ff,ff,ff,ff,ff,ff,ff,ff] rfl rfl (any_of HT_.out (by kernel_rfl)) (fun _ _ _ h => h) (Or.inl ⟨by rfl, ?_⟩) ?_ ?_
        rotate_left
        ·intro w'
         go_simp
         with_reducible rfl
        rotate_left
        ·simp only [Act.put, setA, setZ, setS, i64_w, i32_w]
         rfl
        refine pure_ (i := 5) (N := some 44) (v := ?_) (a' := ?_) #[tt,tt,tt,tt,tt,tt,ff,ff,ff,ff,ff,ff,ff,ff,ff,ff,ff,ff,ff,ff,ff,ff,ff,ff,ff,ff,ff,ff,ff] rfl rfl (any_of HT_.out (by kernel_rfl)) (fun _ _ _ h => h) (Or.inl ⟨by rfl, ?_⟩) ?_ ?_
        rotate_left
        ·intro w'
         go_simp
         with_reducible rfl
        rotate_left
        ·simp only [Act.put, setA, setZ, setS, i64_w, i32_w]
         rfl
        refine pure_ (i := 6) (N := some 45) (v := undef) (a' := ?_) #[tt,tt,tt,tt,tt,tt,tt,ff,ff,ff,ff,ff,ff,ff,ff,ff,ff,ff,ff,ff,ff,ff,ff,ff,ff,ff,ff,ff,ff] rfl rfl (any_of HT_.out (by kernel_rfl)) (fun _ _ _ h => h) (Or.inr ⟨by rfl, rfl⟩) ?_ ?_
        rotate_left
        ·simp only [Act.put, setA, setZ, setS, i64_w, i32_w]
         rfl
        refine pure_ (i := 7) (N := some 46) (v := undef) (a' := ?_) #[tt,tt,tt,tt,tt,tt,tt,tt,ff,ff,ff,ff,ff,ff,ff,ff,ff,ff,ff,ff,ff,ff,ff,ff,ff,ff,ff,ff,ff] rfl rfl (any_of HT_.out (by kernel_rfl)) (fun _ _ _ h => h) (Or.inr ⟨by rfl, rfl⟩) ?_ ?_
        rotate_left
        ·simp only [Act.put, setA, setZ, setS, i64_w, i32_w]
         rfl
        refine pure_ (i := 8) (N := some 47) (v := undef) (a' := ?_) #[tt,tt,tt,tt,tt,tt,tt,tt,tt,ff,ff,ff,ff,ff,ff,ff,ff,ff,ff,ff,ff,ff,ff,ff,ff,ff,ff,ff,ff] rfl rfl (any_of HT_.out (by kernel_rfl)) (fun _ _ _ h => h) (Or.inr ⟨by rfl, rfl⟩) ?_ ?_
        rotate_left
        ·simp only [Act.put, setA, setZ, setS, i64_w, i32_w]
         rfl
        refine pure_ (i := 9) (N := some 48) (v := undef) (a' := ?_) #[tt,tt,tt,tt,tt,tt,tt,tt,tt,tt,ff,ff,ff,ff,ff,ff,ff,ff,ff,ff,ff,ff,ff,ff,ff,ff,ff,ff,ff] rfl rfl (any_of HT_.out (by kernel_rfl)) (fun _ _ _ h => h) (Or.inr ⟨by rfl, rfl⟩) ?_ ?_
        rotate_left
        ·simp only [Act.put, setA, setZ, setS, i64_w, i32_w]
         rfl
        refine pure_ (i := 10) (N := some 49) (v := undef) (a' := ?_) #[tt,tt,tt,tt,tt,tt,tt,tt,tt,tt,tt,ff,ff,ff,ff,ff,ff,ff,ff,ff,ff,ff,ff,ff,ff,ff,ff,ff,ff] rfl rfl (any_of HT_.out (by kernel_rfl)) (fun _ _ _ h => h) (Or.inr ⟨by rfl, rfl⟩) ?_ ?_
        rotate_left
        ·simp only [Act.put, setA, setZ, setS, i64_w, i32_w]
         rfl
        refine pure_ (i := 11) (N := some 50) (v := ?_) (a' := ?_) #[tt,tt,tt,tt,tt,tt,tt,tt,tt,tt,tt,tt,ff,ff,ff,ff,ff,ff,ff,ff,ff,ff,ff,ff,ff,ff,ff,ff,ff] rfl rfl (any_of HT_.out (by kernel_rfl)) (fun _ _ _ h => h) (Or.inl ⟨by rfl, ?_⟩) ?_ ?_
        rotate_left
        ·intro w'
         go_simp
         with_reducible rfl
        rotate_left
        ·simp only [Act.put, setA, setZ, setS, i64_w, i32_w]
         rfl
        refine pure_ (i := 12) (N := some 51) (v := ?_) (a' := ?_) #[tt,tt,tt,tt,tt,tt,tt,tt,tt,tt,tt,tt,tt,ff,ff,ff,ff,ff,ff,ff,ff,ff,ff,ff,ff,ff,ff,ff,ff] rfl rfl (any_of HT_.out (by kernel_rfl)) (fun _ _ _ h => h) (Or.inl ⟨by rfl, ?_⟩) ?_ ?_
        rotate_left
        ·intro w'
         go_simp
         with_reducible rfl
        rotate_left
        ·simp only [Act.put, setA, setZ, setS, i64_w, i32_w]
         rfl
        refine pure_ (i := 13) (N := some 52) (v := undef) (a' := ?_) #[tt,tt,tt,tt,tt,tt,tt,tt,tt,tt,tt,tt,tt,tt,ff,ff,ff,ff,ff,ff,ff,ff,ff,ff,ff,ff,ff,ff,ff] rfl rfl (any_of HT_.out (by kernel_rfl)) (fun _ _ _ h => h) (Or.inr ⟨by rfl, rfl⟩) ?_ ?_
        rotate_left
        ·simp only [Act.put, setA, setZ, setS, i64_w, i32_w]
         rfl
        refine pure_ (i := 14) (N := some 53) (v := undef) (a' := ?_) #[tt,tt,tt,tt,tt,tt,tt,tt,tt,tt,tt,tt,tt,tt,tt,ff,ff,ff,ff,ff,ff,ff,ff,ff,ff,ff,ff,ff,ff] rfl rfl (any_of HT_.out (by kernel_rfl)) (fun _ _ _ h => h) (Or.inr ⟨by rfl, rfl⟩) ?_ ?_
        rotate_left
        ·simp only [Act.put, setA, setZ, setS, i64_w, i32_w]
         rfl
        refine pure_ (i := 15) (N := some 54) (v := undef) (a' := ?_) #[tt,tt,tt,tt,tt,tt,tt,tt,tt,tt,tt,tt,tt,tt,tt,tt,ff,ff,ff,ff,ff,ff,ff,ff,ff,ff,ff,ff,ff] rfl rfl (any_of HT_.out (by kernel_rfl)) (fun _ _ _ h => h) (Or.inr ⟨by rfl, rfl⟩) ?_ ?_
        rotate_left
        ·simp only [Act.put, setA, setZ, setS, i64_w, i32_w]
         rfl
        refine pure_ (i := 16) (N := some 55) (v := undef) (a' := ?_) #[tt,tt,tt,tt,tt,tt,tt,tt,tt,tt,tt,tt,tt,tt,tt,tt,tt,ff,ff,ff,ff,ff,ff,ff,ff,ff,ff,ff,ff] rfl rfl (any_of HT_.out (by kernel_rfl)) (fun _ _ _ h => h) (Or.inr ⟨by rfl, rfl⟩) ?_ ?_
        rotate_left
        ·simp only [Act.put, setA, setZ, setS, i64_w, i32_w]
         rfl
        refine pure_ (i := 17) (N := some 56) (v := undef) (a' := ?_) #[tt,tt,tt,tt,tt,tt,tt,tt,tt,tt,tt,tt,tt,tt,tt,tt,tt,tt,ff,ff,ff,ff,ff,ff,ff,ff,ff,ff,ff] rfl rfl (any_of HT_.out (by kernel_rfl)) (fun _ _ _ h => h) (Or.inr ⟨by rfl, rfl⟩) ?_ ?_
        rotate_left
        ·simp only [Act.put, setA, setZ, setS, i64_w, i32_w]
         rfl
        refine pure_ (i := 18) (N := some 57) (v := ?_) (a' := ?_) #[tt,tt,tt,tt,tt,tt,tt,tt,tt,tt,tt,tt,tt,tt,tt,tt,tt,tt,tt,ff,ff,ff,ff,ff,ff,ff,ff,ff,ff] rfl rfl (any_of HT_.out (by kernel_rfl)) (fun _ _ _ h => h) (Or.inl ⟨by rfl, ?_⟩) ?_ ?_
        rotate_left
        ·intro w'
         go_simp
         with_reducible rfl
        rotate_left
        ·simp only [Act.put, setA, setZ, setS, i64_w, i32_w]
         rfl
        refine pure_ (i := 19) (N := some 58) (v := ?_) (a' := ?_) #[tt,tt,tt,tt,tt,tt,tt,tt,tt,tt,tt,tt,tt,tt,tt,tt,tt,tt,tt,tt,ff,ff,ff,ff,ff,ff,ff,ff,ff] rfl rfl (any_of HT_.out (by kernel_rfl)) (fun _ _ _ h => h) (Or.inl ⟨by rfl, ?_⟩) ?_ ?_
        rotate_left
        ·intro w'
         go_simp
         with_reducible rfl
        rotate_left
        ·simp only [Act.put, setA, setZ, setS, i64_w, i32_w]
         rfl
        refine pure_ (i := 20) (N := some 59) (v := undef) (a' := ?_) #[tt,tt,tt,tt,tt,tt,tt,tt,tt,tt,tt,tt,tt,tt,tt,tt,tt,tt,tt,tt,tt,ff,ff,ff,ff,ff,ff,ff,ff] rfl rfl (any_of HT_.out (by kernel_rfl)) (fun _ _ _ h => h) (Or.inr ⟨by rfl, rfl⟩) ?_ ?_
        rotate_left
        ·simp only [Act.put, setA, setZ, setS, i64_w, i32_w]
         rfl
        refine pure_ (i := 21) (N := some 60) (v := undef) (a' := ?_) #[tt,tt,tt,tt,tt,tt,tt,tt,tt,tt,tt,tt,tt,tt,tt,tt,tt,tt,tt,tt,tt,tt,ff,ff,ff,ff,ff,ff,ff] rfl rfl (any_of HT_.out (by kernel_rfl)) (fun _ _ _ h => h) (Or.inr ⟨by rfl, rfl⟩) ?_ ?_
        rotate_left
        ·simp only [Act.put, setA, setZ, setS, i64_w, i32_w]
         rfl
        refine pure_ (i := 22) (N := some 61) (v := undef) (a' := ?_) #[tt,tt,tt,tt,tt,tt,tt,tt,tt,tt,tt,tt,tt,tt,tt,tt,tt,tt,tt,tt,tt,tt,tt,ff,ff,ff,ff,ff,ff] rfl rfl (any_of HT_.out (by kernel_rfl)) (fun _ _ _ h => h) (Or.inr ⟨by rfl, rfl⟩) ?_ ?_
        rotate_left
        ·simp only [Act.put, setA, setZ, setS, i64_w, i32_w]
         rfl
        refine pure_ (i := 23) (N := some 62) (v := undef) (a' := ?_) #[tt,tt,tt,tt,tt,tt,tt,tt,tt,tt,tt,tt,tt,tt,tt,tt,tt,tt,tt,tt,tt,tt,tt,tt,ff,ff,ff,ff,ff] rfl rfl (any_of HT_.out (by kernel_rfl)) (fun _ _ _ h => h) (Or.inr ⟨by rfl, rfl⟩) ?_ ?_
        rotate_left
        ·simp only [Act.put, setA, setZ, setS, i64_w, i32_w]
         rfl
        refine pure_ (i := 24) (N := some 63) (v := undef) (a' := ?_) #[tt,tt,tt,tt,tt,tt,tt,tt,tt,tt,tt,tt,tt,tt,tt,tt,tt,tt,tt,tt,tt,tt,tt,tt,tt,ff,ff,ff,ff] rfl rfl (any_of HT_.out (by kernel_rfl)) (fun _ _ _ h => h) (Or.inr ⟨by rfl, rfl⟩) ?_ ?_
        rotate_left
        ·simp only [Act.put, setA, setZ, setS, i64_w, i32_w]
         rfl
        refine pure_ (i := 25) (N := some 64) (v := undef) (a' := ?_) #[tt,tt,tt,tt,tt,tt,tt,tt,tt,tt,tt,tt,tt,tt,tt,tt,tt,tt,tt,tt,tt,tt,tt,tt,tt,tt,ff,ff,ff] rfl rfl (any_of HT_.out (by kernel_rfl)) (fun _ _ _ h => h) (Or.inr ⟨by rfl, rfl⟩) ?_ ?_
        rotate_left
        ·simp only [Act.put, setA, setZ, setS, i64_w, i32_w]
         rfl
        refine pure_ (i := 26) (N := some 65) (v := undef) (a' := ?_) #[tt,tt,tt,tt,tt,tt,tt,tt,tt,tt,tt,tt,tt,tt,tt,tt,tt,tt,tt,tt,tt,tt,tt,tt,tt,tt,tt,ff,ff] rfl rfl (any_of HT_.out (by kernel_rfl)) (fun _ _ _ h => h) (Or.inr ⟨by rfl, rfl⟩) ?_ ?_
        rotate_left
        ·simp only [Act.put, setA, setZ, setS, i64_w, i32_w]
         rfl
        refine pure_ (i := 27) (N := some 66) (v := ?_) (a' := ?_) #[tt,tt,tt,tt,tt,tt,tt,tt,tt,tt,tt,tt,tt,tt,tt,tt,tt,tt,tt,tt,tt,tt,tt,tt,tt,tt,tt,tt,ff] rfl rfl (any_of HT_.out (by kernel_rfl)) (fun _ _ _ h => h) (Or.inl ⟨by rfl, ?_⟩) ?_ ?_
        rotate_left
        ·intro w'
         go_simp
         with_reducible rfl
        rotate_left
        ·simp only [Act.put, setA, setZ, setS, i64_w, i32_w]
         rfl
        refine pure_ (i := 28) (N := some 4) (v := ?_) (a' := ?_) #[tt,tt,tt,tt,tt,tt,tt,tt,tt,tt,tt,tt,tt,tt,tt,tt,tt,tt,tt,tt,tt,tt,tt,tt,tt,tt,tt,tt,tt] rfl rfl (any_of HT_.out (by kernel_rfl)) (fun _ _ _ h => h) (Or.inl ⟨by rfl, ?_⟩) ?_ ?_
        rotate_left
        ·intro w'
         go_simp
         with_reducible rfl
        rotate_left
        ·simp only [Act.put, setA, setZ, setS, i64_w, i32_w]
         rfl
        refine done_ (done_of HT_.out (by kernel_rfl)) ?_
        try go_wp2
        go_ret
        exact ⟨by first | rfl | (simp [errW_none, errW_some] <;> rfl) | (simp [errW_none, errW_some] <;> first | rfl | exact isEmpty_bne _) | (simp [*, errW_none, errW_some] <;> rfl), by repeat (first | (with_reducible first | exact HB.out | apply below_alloc | apply pw_below_drewN | apply below_drew1 | refine below_set ?_ GE283.out | refine below_set ?_ GE284.out | refine below_set ?_ GE297.out | refine below_set ?_ GE298.out) | exact HB.out)⟩

end Go.Proofs.YtmhhklenaadobaaDoor.Pr
