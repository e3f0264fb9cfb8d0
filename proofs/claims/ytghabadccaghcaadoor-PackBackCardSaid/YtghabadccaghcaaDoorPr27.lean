/- The machine's side, written by a patched print (wip/tools): each theorem says that a call of the Go function comes to what the Lean function beside it computes, where the tables are laid (TB). -/
import Derived.Test.YtghabadccaghcaaDoorPuPkW
import Derived.Test.YtghabadccaghcaaDoorPuPkAwake
import Derived.Test.YtghabadccaghcaaDoorPr0
import Derived.Test.YtghabadccaghcaaDoorPr1
import Derived.Test.YtghabadccaghcaaDoorPr4
import Derived.Test.YtghabadccaghcaaDoorPr5
import Derived.Test.YtghabadccaghcaaDoorPr6
import Derived.Test.YtghabadccaghcaaDoorPr7
import Derived.Test.YtghabadccaghcaaDoorPr10
import Derived.Test.YtghabadccaghcaaDoorPr24
namespace Go.Proofs.YtghabadccaghcaaDoor.Pr
open Go.RowKit Go.Proofs.YtghabadccaghcaaDoorW.PrintWords Go.Proofs.YtghabadccaghcaaDoorW.PrintLast Go.Proofs.YtghabadccaghcaaDoorW.PrintMore
attribute [local go_sem] fld25_0 fld28_0 fld28_1 fld28_2 fld47_0 fld47_1 fld47_2 fld47_3 fld62_0 fld62_1 fld62_2 fld62_3 binOp_string_gtr2 binOp_string_leq2 binOp_string_geq2 max2_int min2_int max_two min_two max_three min_three max_four min_four   -- for this text's walks alone
set_option linter.unusedVariables false
set_option linter.unusedSimpArgs false

/-! ### scribelaw01_PackBack: function 5 -/
mutual
def scribelaw01_PackBack.l0 : Nat → List (S28) → Int → List (S28) → Int → Int → ByteArray → Option (Bool)
 | 0, _, _, _, _, _, _ => none
 | k + 1, x4, x5, x15, x16, x17, x433000 => if x17 < x16 then (if 0 ≤ x17 then (if x17 < (x15.length : Int) then (if ((rd_T28 x15 x17).f0) = 3 then (if x5 ≥ 60 then (scribelaw01_PackBack.j1 k x4 x5 x15 x16 x17 true x433000 ((rd_T28 x15 x17).f0) ((rd_T28 x15 x17).f1) ((rd_T28 x15 x17).f2)) else (if ((rd_T28 x15 x17).f0) = 4 then (if x5 = 0 then (scribelaw01_PackBack.j1 k x4 x5 x15 x16 x17 true x433000 ((rd_T28 x15 x17).f0) ((rd_T28 x15 x17).f1) ((rd_T28 x15 x17).f2)) else (if ((rd_T28 x15 x17).f0) < 1 then (scribelaw01_PackBack.j1 k x4 x5 x15 x16 x17 true x433000 ((rd_T28 x15 x17).f0) ((rd_T28 x15 x17).f1) ((rd_T28 x15 x17).f2)) else (scribelaw01_PackBack.j1 k x4 x5 x15 x16 x17 (decide (((rd_T28 x15 x17).f0) > 4)) x433000 ((rd_T28 x15 x17).f0) ((rd_T28 x15 x17).f1) ((rd_T28 x15 x17).f2)))) else (if ((rd_T28 x15 x17).f0) < 1 then (scribelaw01_PackBack.j1 k x4 x5 x15 x16 x17 true x433000 ((rd_T28 x15 x17).f0) ((rd_T28 x15 x17).f1) ((rd_T28 x15 x17).f2)) else (scribelaw01_PackBack.j1 k x4 x5 x15 x16 x17 (decide (((rd_T28 x15 x17).f0) > 4)) x433000 ((rd_T28 x15 x17).f0) ((rd_T28 x15 x17).f1) ((rd_T28 x15 x17).f2))))) else (if ((rd_T28 x15 x17).f0) = 4 then (if x5 = 0 then (scribelaw01_PackBack.j1 k x4 x5 x15 x16 x17 true x433000 ((rd_T28 x15 x17).f0) ((rd_T28 x15 x17).f1) ((rd_T28 x15 x17).f2)) else (if ((rd_T28 x15 x17).f0) < 1 then (scribelaw01_PackBack.j1 k x4 x5 x15 x16 x17 true x433000 ((rd_T28 x15 x17).f0) ((rd_T28 x15 x17).f1) ((rd_T28 x15 x17).f2)) else (scribelaw01_PackBack.j1 k x4 x5 x15 x16 x17 (decide (((rd_T28 x15 x17).f0) > 4)) x433000 ((rd_T28 x15 x17).f0) ((rd_T28 x15 x17).f1) ((rd_T28 x15 x17).f2)))) else (if ((rd_T28 x15 x17).f0) < 1 then (scribelaw01_PackBack.j1 k x4 x5 x15 x16 x17 true x433000 ((rd_T28 x15 x17).f0) ((rd_T28 x15 x17).f1) ((rd_T28 x15 x17).f2)) else (scribelaw01_PackBack.j1 k x4 x5 x15 x16 x17 (decide (((rd_T28 x15 x17).f0) > 4)) x433000 ((rd_T28 x15 x17).f0) ((rd_T28 x15 x17).f1) ((rd_T28 x15 x17).f2))))) else (none)) else (none)) else (scribelaw01_PackBack.l1 k x4 x5 0 x433000)
def scribelaw01_PackBack.j1 : Nat → List (S28) → Int → List (S28) → Int → Int → Bool → ByteArray → Int → Int → ByteArray → Option (Bool)
 | 0, _, _, _, _, _, _, _, _, _, _ => none
 | k + 1, x4, x5, x15, x16, x17, x46, x433000, x441000, x441001, x441002 => if x46 = true then (scribelaw01_PackBack.l0 k x4 x5 x15 x16 (wrap64 (x17 + 1)) x433000) else (if x441000 = 3 then (if x441000 = 4 then (if x4.length < 4398046511104 then ((scribelaw01_put.f k x433000 x441000 x441001 x441002).bind fun bt444 => (scribelaw01_PackBack.l0 k (x4 ++ [(⟨x441000, x441001, x441002⟩ : S28)]) (wrap64 ((wrap64 (x5 + 1)) - 1)) x15 x16 (wrap64 (x17 + 1)) bt444.2)) else (none)) else (if x4.length < 4398046511104 then ((scribelaw01_put.f k x433000 x441000 x441001 x441002).bind fun bt449 => (scribelaw01_PackBack.l0 k (x4 ++ [(⟨x441000, x441001, x441002⟩ : S28)]) (wrap64 (x5 + 1)) x15 x16 (wrap64 (x17 + 1)) bt449.2)) else (none))) else (if x441000 = 4 then (if x4.length < 4398046511104 then ((scribelaw01_put.f k x433000 x441000 x441001 x441002).bind fun bt454 => (scribelaw01_PackBack.l0 k (x4 ++ [(⟨x441000, x441001, x441002⟩ : S28)]) (wrap64 (x5 - 1)) x15 x16 (wrap64 (x17 + 1)) bt454.2)) else (none)) else (if x4.length < 4398046511104 then ((scribelaw01_put.f k x433000 x441000 x441001 x441002).bind fun bt459 => (scribelaw01_PackBack.l0 k (x4 ++ [(⟨x441000, x441001, x441002⟩ : S28)]) x5 x15 x16 (wrap64 (x17 + 1)) bt459.2)) else (none))))
def scribelaw01_PackBack.l1 : Nat → List (S28) → Int → Int → ByteArray → Option (Bool)
 | 0, _, _, _, _ => none
 | k + 1, x4, x5, x8, x433000 => if x8 < x5 then ((pack_Writer_Close.f x433000).bind fun t461 => (scribelaw01_PackBack.l1 k x4 x5 (wrap64 (x8 + 1)) t461)) else ((pack_Writer_Bytes.f x433000).bind fun bt462 => ((pack_Read.f bt462.1).bind fun bt464 => (scribelaw01_PackBack.l2 k x5 x4 (x4.length : Int) 0 bt464.1 bt464.2.1 bt464.2.2.1 bt464.2.2.2)))
def scribelaw01_PackBack.l2 : Nat → Int → List (S28) → Int → Int → ByteArray → Int → Int → Int → Option (Bool)
 | 0, _, _, _, _, _, _, _, _ => none
 | k + 1, x5, x72, x73, x74, x469000, x469001, x469002, x469003 => if x74 < x73 then (if 0 ≤ x74 then (if x74 < (x72.length : Int) then (if ((rd_T28 x72 x74).f0) = 1 then ((pack_Reader_Int.f k x469000 x469001 x469002 x469003).bind fun bt471 => (if bt471.1 = ((rd_T28 x72 x74).f1) then (scribelaw01_PackBack.l2 k x5 x72 x73 (wrap64 (x74 + 1)) bt471.2.1 bt471.2.2.1 bt471.2.2.2.1 bt471.2.2.2.2) else (some false))) else (if ((rd_T28 x72 x74).f0) = 2 then ((pack_Reader_Text.f k x469000 x469001 x469002 x469003 (((rd_T28 x72 x74).f2).size : Int)).bind fun bt476 => (if bt476.1.toList = ((rd_T28 x72 x74).f2).toList then (scribelaw01_PackBack.l2 k x5 x72 x73 (wrap64 (x74 + 1)) bt476.2.1 bt476.2.2.1 bt476.2.2.2.1 bt476.2.2.2.2) else (some false))) else (if ((rd_T28 x72 x74).f0) = 3 then ((pack_Reader_Open.f k x469000 x469001 x469002 x469003).bind fun bt481 => (scribelaw01_PackBack.l2 k x5 x72 x73 (wrap64 (x74 + 1)) bt481.1 bt481.2.1 bt481.2.2.1 bt481.2.2.2)) else (if ((rd_T28 x72 x74).f0) = 4 then ((pack_Reader_Close.f k x469000 x469001 x469002 x469003).bind fun bt485 => (scribelaw01_PackBack.l2 k x5 x72 x73 (wrap64 (x74 + 1)) bt485.1 bt485.2.1 bt485.2.2.1 bt485.2.2.2)) else (scribelaw01_PackBack.l2 k x5 x72 x73 (wrap64 (x74 + 1)) x469000 x469001 x469002 x469003))))) else (none)) else (none)) else (scribelaw01_PackBack.l3 k x5 0 x469000 x469001 x469002 x469003)
def scribelaw01_PackBack.l3 : Nat → Int → Int → ByteArray → Int → Int → Int → Option (Bool)
 | 0, _, _, _, _, _, _ => none
 | k + 1, x5, x12, x469000, x469001, x469002, x469003 => if x12 < x5 then ((pack_Reader_Close.f k x469000 x469001 x469002 x469003).bind fun bt489 => (scribelaw01_PackBack.l3 k x5 (wrap64 (x12 + 1)) bt489.1 bt489.2.1 bt489.2.2.1 bt489.2.2.2)) else ((scribelaw01_awake.f).bind fun t493 => (if t493 = true then ((pack_Reader_Done.f x469000 x469001 x469002 x469003).bind fun bt494 => (some (bt494.1 == 0))) else (some false)))
end
def scribelaw01_PackBack.f (k : Nat) (l0 : List (S28)) : Option (Bool) := (scribelaw01_few.f k l0 40).bind fun t436 => (scribelaw01_PackBack.l0 k (([] : List (S28))) 0 t436 (t436.length : Int) 0 (⟨#[]⟩ : ByteArray))
theorem scribelaw01_PackBack.mono_l : ∀ k, (∀ y0 y1 y2 y3 y4 y5, LeO (scribelaw01_PackBack.l0 k y0 y1 y2 y3 y4 y5) (scribelaw01_PackBack.l0 (k + 1) y0 y1 y2 y3 y4 y5)) ∧ (∀ y0 y1 y2 y3 y4 y5 y6 y7 y8 y9, LeO (scribelaw01_PackBack.j1 k y0 y1 y2 y3 y4 y5 y6 y7 y8 y9) (scribelaw01_PackBack.j1 (k + 1) y0 y1 y2 y3 y4 y5 y6 y7 y8 y9)) ∧ (∀ y0 y1 y2 y3, LeO (scribelaw01_PackBack.l1 k y0 y1 y2 y3) (scribelaw01_PackBack.l1 (k + 1) y0 y1 y2 y3)) ∧ (∀ y0 y1 y2 y3 y4 y5 y6 y7, LeO (scribelaw01_PackBack.l2 k y0 y1 y2 y3 y4 y5 y6 y7) (scribelaw01_PackBack.l2 (k + 1) y0 y1 y2 y3 y4 y5 y6 y7)) ∧ (∀ y0 y1 y2 y3 y4 y5, LeO (scribelaw01_PackBack.l3 k y0 y1 y2 y3 y4 y5) (scribelaw01_PackBack.l3 (k + 1) y0 y1 y2 y3 y4 y5))
 | 0 => ⟨fun _ _ _ _ _ _ r h => by simp [scribelaw01_PackBack.l0] at h, fun _ _ _ _ _ _ _ _ _ _ r h => by simp [scribelaw01_PackBack.j1] at h, fun _ _ _ _ r h => by simp [scribelaw01_PackBack.l1] at h, fun _ _ _ _ _ _ _ _ r h => by simp [scribelaw01_PackBack.l2] at h, fun _ _ _ _ _ _ r h => by simp [scribelaw01_PackBack.l3] at h⟩
 | k + 1 => by
  obtain ⟨ih0, ih1, ih2, ih3, ih4⟩ := scribelaw01_PackBack.mono_l k
  refine ⟨?_, ?_, ?_, ?_, ?_⟩
  ·intro y0 y1 y2 y3 y4 y5
   unfold scribelaw01_PackBack.l0
   repeat' first
   | (with_reducible exact ih0 _ _ _ _ _ _)
   | (with_reducible exact ih1 _ _ _ _ _ _ _ _ _ _)
   | (with_reducible exact ih2 _ _ _ _)
   | (with_reducible exact ih3 _ _ _ _ _ _ _ _)
   | (with_reducible exact ih4 _ _ _ _ _ _)
   | (with_reducible exact pack_Reader_Close.mono _ _ _ _ _)
   | (with_reducible exact pack_Reader_Int.mono _ _ _ _ _)
   | (with_reducible exact pack_Reader_Open.mono _ _ _ _ _)
   | (with_reducible exact pack_Reader_Text.mono _ _ _ _ _ _)
   | (with_reducible exact scribelaw01_few.mono _ _ _)
   | (with_reducible exact scribelaw01_put.mono _ _ _ _ _)
   | (with_reducible exact LeO.refl _)
   | (with_reducible exact LeO.none _)
   | (with_reducible refine LeO.ite ?_ ?_)
   | (with_reducible refine LeO.bind ?_ (fun _ => ?_))
   | exact ih0 _ _ _ _ _ _
   | exact ih1 _ _ _ _ _ _ _ _ _ _
   | exact ih2 _ _ _ _
   | exact ih3 _ _ _ _ _ _ _ _
   | exact ih4 _ _ _ _ _ _
   | exact pack_Reader_Close.mono _ _ _ _ _
   | exact pack_Reader_Int.mono _ _ _ _ _
   | exact pack_Reader_Open.mono _ _ _ _ _
   | exact pack_Reader_Text.mono _ _ _ _ _ _
   | exact scribelaw01_few.mono _ _ _
   | exact scribelaw01_put.mono _ _ _ _ _
   | exact LeO.none _
   | refine LeO.ite ?_ ?_
   | refine LeO.bind ?_ (fun _ => ?_)
  ·intro y0 y1 y2 y3 y4 y5 y6 y7 y8 y9
   unfold scribelaw01_PackBack.j1
   repeat' first
   | (with_reducible exact ih0 _ _ _ _ _ _)
   | (with_reducible exact ih1 _ _ _ _ _ _ _ _ _ _)
   | (with_reducible exact ih2 _ _ _ _)
   | (with_reducible exact ih3 _ _ _ _ _ _ _ _)
   | (with_reducible exact ih4 _ _ _ _ _ _)
   | (with_reducible exact pack_Reader_Close.mono _ _ _ _ _)
   | (with_reducible exact pack_Reader_Int.mono _ _ _ _ _)
   | (with_reducible exact pack_Reader_Open.mono _ _ _ _ _)
   | (with_reducible exact pack_Reader_Text.mono _ _ _ _ _ _)
   | (with_reducible exact scribelaw01_few.mono _ _ _)
   | (with_reducible exact scribelaw01_put.mono _ _ _ _ _)
   | (with_reducible exact LeO.refl _)
   | (with_reducible exact LeO.none _)
   | (with_reducible refine LeO.ite ?_ ?_)
   | (with_reducible refine LeO.bind ?_ (fun _ => ?_))
   | exact ih0 _ _ _ _ _ _
   | exact ih1 _ _ _ _ _ _ _ _ _ _
   | exact ih2 _ _ _ _
   | exact ih3 _ _ _ _ _ _ _ _
   | exact ih4 _ _ _ _ _ _
   | exact pack_Reader_Close.mono _ _ _ _ _
   | exact pack_Reader_Int.mono _ _ _ _ _
   | exact pack_Reader_Open.mono _ _ _ _ _
   | exact pack_Reader_Text.mono _ _ _ _ _ _
   | exact scribelaw01_few.mono _ _ _
   | exact scribelaw01_put.mono _ _ _ _ _
   | exact LeO.none _
   | refine LeO.ite ?_ ?_
   | refine LeO.bind ?_ (fun _ => ?_)
  ·intro y0 y1 y2 y3
   unfold scribelaw01_PackBack.l1
   repeat' first
   | (with_reducible exact ih0 _ _ _ _ _ _)
   | (with_reducible exact ih1 _ _ _ _ _ _ _ _ _ _)
   | (with_reducible exact ih2 _ _ _ _)
   | (with_reducible exact ih3 _ _ _ _ _ _ _ _)
   | (with_reducible exact ih4 _ _ _ _ _ _)
   | (with_reducible exact pack_Reader_Close.mono _ _ _ _ _)
   | (with_reducible exact pack_Reader_Int.mono _ _ _ _ _)
   | (with_reducible exact pack_Reader_Open.mono _ _ _ _ _)
   | (with_reducible exact pack_Reader_Text.mono _ _ _ _ _ _)
   | (with_reducible exact scribelaw01_few.mono _ _ _)
   | (with_reducible exact scribelaw01_put.mono _ _ _ _ _)
   | (with_reducible exact LeO.refl _)
   | (with_reducible exact LeO.none _)
   | (with_reducible refine LeO.ite ?_ ?_)
   | (with_reducible refine LeO.bind ?_ (fun _ => ?_))
   | exact ih0 _ _ _ _ _ _
   | exact ih1 _ _ _ _ _ _ _ _ _ _
   | exact ih2 _ _ _ _
   | exact ih3 _ _ _ _ _ _ _ _
   | exact ih4 _ _ _ _ _ _
   | exact pack_Reader_Close.mono _ _ _ _ _
   | exact pack_Reader_Int.mono _ _ _ _ _
   | exact pack_Reader_Open.mono _ _ _ _ _
   | exact pack_Reader_Text.mono _ _ _ _ _ _
   | exact scribelaw01_few.mono _ _ _
   | exact scribelaw01_put.mono _ _ _ _ _
   | exact LeO.none _
   | refine LeO.ite ?_ ?_
   | refine LeO.bind ?_ (fun _ => ?_)
  ·intro y0 y1 y2 y3 y4 y5 y6 y7
   unfold scribelaw01_PackBack.l2
   repeat' first
   | (with_reducible exact ih0 _ _ _ _ _ _)
   | (with_reducible exact ih1 _ _ _ _ _ _ _ _ _ _)
   | (with_reducible exact ih2 _ _ _ _)
   | (with_reducible exact ih3 _ _ _ _ _ _ _ _)
   | (with_reducible exact ih4 _ _ _ _ _ _)
   | (with_reducible exact pack_Reader_Close.mono _ _ _ _ _)
   | (with_reducible exact pack_Reader_Int.mono _ _ _ _ _)
   | (with_reducible exact pack_Reader_Open.mono _ _ _ _ _)
   | (with_reducible exact pack_Reader_Text.mono _ _ _ _ _ _)
   | (with_reducible exact scribelaw01_few.mono _ _ _)
   | (with_reducible exact scribelaw01_put.mono _ _ _ _ _)
   | (with_reducible exact LeO.refl _)
   | (with_reducible exact LeO.none _)
   | (with_reducible refine LeO.ite ?_ ?_)
   | (with_reducible refine LeO.bind ?_ (fun _ => ?_))
   | exact ih0 _ _ _ _ _ _
   | exact ih1 _ _ _ _ _ _ _ _ _ _
   | exact ih2 _ _ _ _
   | exact ih3 _ _ _ _ _ _ _ _
   | exact ih4 _ _ _ _ _ _
   | exact pack_Reader_Close.mono _ _ _ _ _
   | exact pack_Reader_Int.mono _ _ _ _ _
   | exact pack_Reader_Open.mono _ _ _ _ _
   | exact pack_Reader_Text.mono _ _ _ _ _ _
   | exact scribelaw01_few.mono _ _ _
   | exact scribelaw01_put.mono _ _ _ _ _
   | exact LeO.none _
   | refine LeO.ite ?_ ?_
   | refine LeO.bind ?_ (fun _ => ?_)
  ·intro y0 y1 y2 y3 y4 y5
   unfold scribelaw01_PackBack.l3
   repeat' first
   | (with_reducible exact ih0 _ _ _ _ _ _)
   | (with_reducible exact ih1 _ _ _ _ _ _ _ _ _ _)
   | (with_reducible exact ih2 _ _ _ _)
   | (with_reducible exact ih3 _ _ _ _ _ _ _ _)
   | (with_reducible exact ih4 _ _ _ _ _ _)
   | (with_reducible exact pack_Reader_Close.mono _ _ _ _ _)
   | (with_reducible exact pack_Reader_Int.mono _ _ _ _ _)
   | (with_reducible exact pack_Reader_Open.mono _ _ _ _ _)
   | (with_reducible exact pack_Reader_Text.mono _ _ _ _ _ _)
   | (with_reducible exact scribelaw01_few.mono _ _ _)
   | (with_reducible exact scribelaw01_put.mono _ _ _ _ _)
   | (with_reducible exact LeO.refl _)
   | (with_reducible exact LeO.none _)
   | (with_reducible refine LeO.ite ?_ ?_)
   | (with_reducible refine LeO.bind ?_ (fun _ => ?_))
   | exact ih0 _ _ _ _ _ _
   | exact ih1 _ _ _ _ _ _ _ _ _ _
   | exact ih2 _ _ _ _
   | exact ih3 _ _ _ _ _ _ _ _
   | exact ih4 _ _ _ _ _ _
   | exact pack_Reader_Close.mono _ _ _ _ _
   | exact pack_Reader_Int.mono _ _ _ _ _
   | exact pack_Reader_Open.mono _ _ _ _ _
   | exact pack_Reader_Text.mono _ _ _ _ _ _
   | exact scribelaw01_few.mono _ _ _
   | exact scribelaw01_put.mono _ _ _ _ _
   | exact LeO.none _
   | refine LeO.ite ?_ ?_
   | refine LeO.bind ?_ (fun _ => ?_)
theorem scribelaw01_PackBack.mono : ∀ a0 k, LeO (scribelaw01_PackBack.f k a0) (scribelaw01_PackBack.f (k + 1) a0) := by
 intro a0 k
 obtain ⟨ih0, ih1, ih2, ih3, ih4⟩ := scribelaw01_PackBack.mono_l k
 unfold scribelaw01_PackBack.f
 repeat' first
   | (with_reducible exact ih0 _ _ _ _ _ _)
   | (with_reducible exact ih1 _ _ _ _ _ _ _ _ _ _)
   | (with_reducible exact ih2 _ _ _ _)
   | (with_reducible exact ih3 _ _ _ _ _ _ _ _)
   | (with_reducible exact ih4 _ _ _ _ _ _)
   | (with_reducible exact pack_Reader_Close.mono _ _ _ _ _)
   | (with_reducible exact pack_Reader_Int.mono _ _ _ _ _)
   | (with_reducible exact pack_Reader_Open.mono _ _ _ _ _)
   | (with_reducible exact pack_Reader_Text.mono _ _ _ _ _ _)
   | (with_reducible exact scribelaw01_few.mono _ _ _)
   | (with_reducible exact scribelaw01_put.mono _ _ _ _ _)
   | (with_reducible exact LeO.refl _)
   | (with_reducible exact LeO.none _)
   | (with_reducible refine LeO.ite ?_ ?_)
   | (with_reducible refine LeO.bind ?_ (fun _ => ?_))
   | exact ih0 _ _ _ _ _ _
   | exact ih1 _ _ _ _ _ _ _ _ _ _
   | exact ih2 _ _ _ _
   | exact ih3 _ _ _ _ _ _ _ _
   | exact ih4 _ _ _ _ _ _
   | exact pack_Reader_Close.mono _ _ _ _ _
   | exact pack_Reader_Int.mono _ _ _ _ _
   | exact pack_Reader_Open.mono _ _ _ _ _
   | exact pack_Reader_Text.mono _ _ _ _ _ _
   | exact scribelaw01_few.mono _ _ _
   | exact scribelaw01_put.mono _ _ _ _ _
   | exact LeO.none _
   | refine LeO.ite ?_ ?_
   | refine LeO.bind ?_ (fun _ => ?_)
def scribelaw01_PackBack.T28 : Bool × List (List Nat × List Nat) := (true, [([], []), ([], []), ([1], [1]), ([2], [2]), ([0, 3], [0, 3]), ([], []), ([5], [5]), ([4, 6], [4, 6])])
def scribelaw01_PackBack.B28 : List Nat := [0, 0, 2, 6, 15, 0, 32, 127]
theorem scribelaw01_PackBack.tab28 : rtab .any (opsOf Tryd.f5 28) = scribelaw01_PackBack.T28 := by kernel_rfl
theorem scribelaw01_PackBack.bits28 : waitsOk scribelaw01_PackBack.T28.2 scribelaw01_PackBack.B28 = true := by kernel_rfl
set_option maxHeartbeats 8000000 in
set_option maxRecDepth 100000 in
theorem scribelaw01_PackBack.calls (k : Nat) (A0 : Option Addr) (c0 : Nat) (l0 : List (S28)) (r : Bool) (w : World) (hr0 : Kd.C k28 w A0 l0.length l0) (hc0 : l0.length ≤ c0) (hT : TB w) (h : scribelaw01_PackBack.f k l0 = some r) :
  Calls Tryd.prog 5 #[.slice A0 l0.length c0] w fun e w' => e = .returned (.bool r) ∧ Below w.heap.size w w' := by
 have hu25 := Tryd.underlying25
 have hu28 := Tryd.underlying28
 have HR0 := Aside0.mk hr0
 have HC0 := Aside0.mk hc0
 clear hr0 hc0
 have HB := Aside0.mk (Below.refl w.heap.size w)
 have H : ((scribelaw01_few.f k l0 40).bind fun t436 => (scribelaw01_PackBack.l0 k (([] : List (S28))) 0 t436 (t436.length : Int) 0 (⟨#[]⟩ : ByteArray))) = some r := h
 clear h
 obtain ⟨y433, hy433⟩ : ∃ y_ : List (S28), y_ = (([] : List (S28))) := ⟨_, rfl⟩
 replace H : ((scribelaw01_few.f k l0 40).bind fun t436 => (scribelaw01_PackBack.l0 k y433 0 t436 (t436.length : Int) 0 (⟨#[]⟩ : ByteArray))) = some r := by first | (rw [hy433]; with_reducible exact H) | (have H2_ := (Option.bind_some _ _).symm.trans H; rw [hy433]; with_reducible exact H2_) | (have H2_ := (Option.bind_some _ _).symm.trans H; with_reducible exact H2_) | with_reducible exact H | (rw [hy433]; exact H) | exact H
 have Ny433 := Aside0.mk hy433
 clear hy433
 replace H := Option.bind_eq_some_iff.mp H
 obtain ⟨t436, A20, H⟩ := H
 replace H : (scribelaw01_PackBack.l0 k y433 0 t436 (t436.length : Int) 0 (⟨#[]⟩ : ByteArray)) = some r := H
 have A2 := Aside0.mk A20
 clear A20
 have H' := Aside0.mk H
 clear H
 go_enter Tryd.func5, Tryd.ntmps5
 go_wp2_with (first | ((with_reducible refine gate_dst (N := 3) rfl ?_); refine box_event ?hg (N := 3) ?hd (cs := #[.slice none 0 0]) (t := 25) ?hr ?_; (case hd => rfl); (case hg => rfl); (case hr => first | (go_simp; done) | (go_simp; rfl)); intro gb432 hg w3 hbox hb; have n0_ := Aside0.mk (below_step (by repeat (first | (with_reducible first | exact HB.out | apply below_alloc | apply pw_below_drewN | apply below_drew1) | exact HB.out)) hb); have n1_ := Aside0.mk (IsS25.born (w0 := w) hbox (by rw [hg]; exact (below_size (by repeat (first | (with_reducible first | exact HB.out | apply below_alloc | apply pw_below_drewN | apply below_drew1) | exact HB.out))) : w.heap.size ≤ gb432)); have n2_ := Aside0.mk ((by rw [hg]; exact (below_size (by repeat (first | (with_reducible first | exact HB.out | apply below_alloc | apply pw_below_drewN | apply below_drew1) | exact HB.out))) : w.heap.size ≤ gb432)); have n3_ := Aside0.mk ((by rw [hg]; exact (below_size (by repeat (first | (with_reducible first | exact HB.out | apply below_alloc | apply pw_below_drewN | apply below_drew1) | exact HB.out))) : w.heap.size ≤ gb432)); clear HB; have HB := n0_; have HI432 := n1_; have GW432 := n2_; have GE432 := n3_; clear n0_ n1_ n2_ n3_; clear hb hbox hg) | ((with_reducible refine gate_dst (N := 13) rfl ?_); refine Kd.R_lit k28 _ 28 ?hg (N := 13) ?hd (xs := ([] : List (S28))) (inner := []) (ok := fun _ => True) (okp := fun _ => True) ?hr ?hp (fun _ hk => hk) trivial (Below.refl _ _) (Nat.le_refl _) (by simp) ?_; (case hd => rfl); (case hg => rfl); (case hr => first | (go_simp; done) | (go_simp; rfl)); (case hp => exact (Reps.none _ _)); intro v434 w4 ho5 hb hg_ hnew_; clear hg_ hnew_; (first | rw [← Ny433.out] at ho5 | (simp only [Int.reduceToNat] at ho5; rw [← Ny433.out] at ho5)); have n0_ := Aside0.mk (Kd.R_lower ho5 (below_size (by repeat (first | (with_reducible first | exact HB.out | apply below_alloc | apply pw_below_drewN | apply below_drew1 | refine below_set ?_ (IsS25.ge HI432.out)) | exact HB.out)))); have n1_ := Aside0.mk (IsS25.below (by repeat (first | (with_reducible first | exact HI432.out | apply IsS25.alloc | apply IsS25.drewN | apply IsS25.drew | apply IsS25.set_0) | exact HI432.out)) hb); have n2_ := Aside0.mk (below_step (by repeat (first | (with_reducible first | exact HB.out | apply below_alloc | apply pw_below_drewN | apply below_drew1 | refine below_set ?_ (IsS25.ge HI432.out)) | exact HB.out)) hb); clear HI432; clear HB; have HO435 := n0_; have HI432 := n1_; have HB := n2_; clear n0_ n1_ n2_; clear hb ho5) | ((with_reducible refine gate_callee (f := 11) rfl ?_); refine goesL_ (some 15) rfl rfl Tryd.func11 (by kernel_rfl) rfl #[.slice A0 l0.length c0, .int .i64 40] rfl (by (try simp only [List.map_toArray, List.map_cons, List.map_nil]); first | done | rfl | (simp only [List.length_drop, List.length_take]; rfl)) ?_; (with_reducible refine (scribelaw01_few.calls k _ _ l0 40 t436 _ ?side1 ?side2 ?side3 A2.out).mono ?_); (case side1 => repeat (first | exact (Kd.C_below HR0.out HB.out) | (with_reducible refine Kd.C_alloc ?_ _) | (with_reducible refine Kd.C_drewN ?_ _) | (with_reducible refine Kd.C_drew ?_))); (case side2 => exact HC0.out); (case side3 => exact TB.below hT (by repeat (first | (with_reducible first | exact HB.out | apply below_alloc | apply pw_below_drewN | apply below_drew1 | refine below_set ?_ (IsS25.ge HI432.out)) | exact HB.out))); rintro e w6 ⟨v437, rfl, ho0, hb⟩; refine ⟨_, rfl, ?_⟩; have n0_ := Aside0.mk (Kd.R_elder' (by (with_reducible repeat (first | apply Kd.R_alloc | apply Kd.R_drewN | apply Kd.R_drew)); exact HO435.out) (Kd.R_base ho0) hb); have n1_ := Aside0.mk (Kd.R_lower (Kd.R_new' ho0 (Kd.R_lt (by (with_reducible repeat (first | apply Kd.R_alloc | apply Kd.R_drewN | apply Kd.R_drew)); exact HO435.out))) (below_size (by repeat (first | (with_reducible first | exact HB.out | apply below_alloc | apply pw_below_drewN | apply below_drew1 | refine below_set ?_ (IsS25.ge HI432.out)) | exact HB.out)))); have n2_ := Aside0.mk (IsS25.below (by repeat (first | (with_reducible first | exact HI432.out | apply IsS25.alloc | apply IsS25.drewN | apply IsS25.drew | apply IsS25.set_0) | exact HI432.out)) hb); have n3_ := Aside0.mk (below_step (by repeat (first | (with_reducible first | exact HB.out | apply below_alloc | apply pw_below_drewN | apply below_drew1 | refine below_set ?_ (IsS25.ge HI432.out)) | exact HB.out)) hb); clear HO435; clear HI432; clear HB; have HO435 := n0_; have HO438 := n1_; have HI432 := n2_; have HB := n3_; clear n0_ n1_ n2_ n3_; (try clear hb); (try clear hb2); (try clear hk); (try clear hi); (try clear ho0); obtain ⟨Ao7, co7, eo7⟩ := Kd.R_slice HO438.out; subst eo7))
 go_loopg [4, 5, 17] k (fun kq v4 v5 v17 w' => ∃ (x4_1 : List (S28)) (x5_1 : Int) (x17_1 : Int) (x433000_1 : ByteArray), v5 = .int .i64 x5_1 ∧ v17 = .int .i64 x17_1 ∧ Aside0 (scribelaw01_PackBack.l0 kq x4_1 x5_1 t436 (t436.length : Int) x17_1 x433000_1 = some r) ∧ Aside0 (kq ≤ k) ∧ Aside0 (Kd.R k28 28 w' w.heap.size (fun k_ => some k_ ≠ ((.slice Ao7 t436.length co7) : Value).ownBlock) v4 x4_1) ∧ Aside0 (Kd.R k28 28 w' w.heap.size (fun k_ => some k_ ≠ (v4 : Value).ownBlock) (.slice Ao7 t436.length co7) t436) ∧ Aside0 (IsS25 w w' gb432 x433000_1) ∧ Aside0 (Below w.heap.size w w'))
 case atStart => exact ⟨(y433), (0), (0), ((⟨#[]⟩ : ByteArray)), (by first | rfl | (simp; done) | (simp [*]; done) | (simp; unfold wrap64; omega)), (by first | rfl | (simp; done) | (simp [*]; done) | (simp; unfold wrap64; omega)), H', ⟨Nat.le_refl _⟩, ⟨by (with_reducible repeat (first | apply Kd.R_alloc | apply Kd.R_drewN | apply Kd.R_drew)); exact Kd.R_mono HO435.out (fun _ hk => hk.2)⟩, ⟨by (with_reducible repeat (first | apply Kd.R_alloc | apply Kd.R_drewN | apply Kd.R_drew)); exact Kd.R_mono HO438.out (fun _ hk => hk.2)⟩, ⟨by repeat (first | (with_reducible first | exact HI432.out | apply IsS25.alloc | apply IsS25.drewN | apply IsS25.drew | apply IsS25.set_0) | exact HI432.out)⟩, ⟨by repeat (first | (with_reducible first | exact HB.out | apply below_alloc | apply pw_below_drewN | apply below_drew1 | refine below_set ?_ (IsS25.ge HI432.out)) | exact HB.out)⟩⟩
 case round =>
  clear H'
  try clear c1
  try clear p2
  try clear c5
  try clear p6
  obtain ⟨x4_1, x5_1, x17_1, x433000_1, rfl, rfl, HA, HK1, HO_4, HO_15, HI432, HB⟩ := hrel
  cases gk with
  | zero => exact absurd HA.out (by simp [scribelaw01_PackBack.l0])
  | succ k1 =>
   have H := HA.out
   clear HA
   simp only [scribelaw01_PackBack.l0] at H
   by_cases c8 : x17_1 < (t436.length : Int)
   ·rw [if_pos c8] at H
    have c8b0 : decide (x17_1 < (t436.length : Int)) = true := decide_eq_true c8
    clear c8
    by_cases c9 : 0 ≤ x17_1
    ·rw [if_pos c9] at H
     have c9b0 : decide (0 ≤ x17_1) = true := decide_eq_true c9
     clear c9
     by_cases c10 : x17_1 < (t436.length : Int)
     ·rw [if_pos c10] at H
      have c10b0 : decide (x17_1 < (t436.length : Int)) = true := decide_eq_true c10
      clear c10
      have HC11 := Aside0.mk H
      clear H
      have p439 : 0 ≤ (x17_1 : Int) := of_decide_eq_true (by first | (with_reducible assumption) | assumption)
      have q439 : x17_1 < (t436.length : Int) := of_decide_eq_true (by first | (with_reducible assumption) | assumption)
      obtain ⟨ad439, e439, hx439_0, hx439_1, hx439_2⟩ := at_T28 (Kd.R_reads' HO_15.out).2.2 x17_1 p439 q439
      cases e439
      replace p439 := eq_true p439
      replace q439 := eq_true q439
      go_upto_region 7 with (first | ((with_reducible refine gate_dst (N := 7) rfl ?_); refine box_event ?hg (N := 7) ?hd (cs := #[.int .i64 0, .int .i64 0, .string (⟨#[]⟩ : ByteArray)]) (t := 28) ?hr ?_; (case hd => rfl); (case hg => rfl); (case hr => first | (go_simp; done) | (go_simp; rfl)); intro gb440 hg w12 hbox hb; have n0_ := Aside0.mk (Kd.R_below (Kd.R_elderB (by (with_reducible repeat (first | apply Kd.R_alloc | apply Kd.R_drewN | apply Kd.R_drew)); exact HO_4.out) gb440 (Nat.le_of_eq hg.symm)) hb); have n1_ := Aside0.mk (Kd.R_below (Kd.R_elderB (by (with_reducible repeat (first | apply Kd.R_alloc | apply Kd.R_drewN | apply Kd.R_drew)); exact HO_15.out) gb440 (Nat.le_of_eq hg.symm)) hb); have n2_ := Aside0.mk (IsS25.below (by repeat (first | (with_reducible first | exact HI432.out | apply IsS25.alloc | apply IsS25.drewN | apply IsS25.drew | apply IsS25.set_0) | exact HI432.out)) hb); have n3_ := Aside0.mk (below_step (by repeat (first | (with_reducible first | exact HB.out | apply below_alloc | apply pw_below_drewN | apply below_drew1 | refine below_set ?_ (IsS25.ge HI432.out)) | exact HB.out)) hb); have n4_ := Aside0.mk (hbox); have n5_ := Aside0.mk ((by rw [hg]; exact (below_size (by repeat (first | (with_reducible first | exact HB.out | apply below_alloc | apply pw_below_drewN | apply below_drew1 | refine below_set ?_ (IsS25.ge HI432.out)) | exact HB.out))) : w.heap.size ≤ gb440)); have n6_ := Aside0.mk ((by rw [hg]; exact (below_size (by repeat (first | (with_reducible first | exact HB.out | apply below_alloc | apply pw_below_drewN | apply below_drew1 | refine below_set ?_ (IsS25.ge HI432.out)) | exact HB.out))) : w.heap.size ≤ gb440)); have n7_ := Aside0.mk ((by rw [hg]; exact Nat.ne_of_lt (IsS25.lt (show IsS25 w _ gb432 x433000_1 from by repeat (first | (with_reducible first | exact HI432.out | apply IsS25.alloc | apply IsS25.drewN | apply IsS25.drew | apply IsS25.set_0) | exact HI432.out))) : gb432 ≠ gb440)); have n8_ := Aside0.mk ((by rw [hg]; exact Nat.ne_of_gt (IsS25.lt (show IsS25 w _ gb432 x433000_1 from by repeat (first | (with_reducible first | exact HI432.out | apply IsS25.alloc | apply IsS25.drewN | apply IsS25.drew | apply IsS25.set_0) | exact HI432.out))) : gb440 ≠ gb432)); clear HO_4; clear HO_15; clear HI432; clear HB; have HO_4 := n0_; have HO_15 := n1_; have HI432 := n2_; have HB := n3_; have BK440 := n4_; have GW440 := n5_; have GE440 := n6_; have NB432_440 := n7_; have NB440_432 := n8_; clear n0_ n1_ n2_ n3_ n4_ n5_ n6_ n7_ n8_; clear hb hbox hg; have hnb13 := NB440_432.out; have hnc13 := NB432_440.out; have hcz14_0 : w12.cell? ⟨gb440, 0, none⟩ = some (.int .i64 0) := (blk_cell BK440.out 0).trans rfl; have hcz14_1 : w12.cell? ⟨gb440, 1, none⟩ = some (.int .i64 0) := (blk_cell BK440.out 1).trans rfl; have hcz14_2 : w12.cell? ⟨gb440, 2, none⟩ = some (.string (⟨#[]⟩ : ByteArray)) := (blk_cell BK440.out 2).trans rfl; have hfz14_0 := blk_frozen BK440.out 0; have hfz14_1 := blk_frozen BK440.out 1; have hfz14_2 := blk_frozen BK440.out 2))
      (try simp only [Act.put, List.setIfInBounds_toArray, List.set_cons_zero, List.set_cons_succ])
      go_cut [46] (fun v46 wc => ∃ (kq : Nat) (x46_10 : Bool), v46 = .bool x46_10 ∧ Aside0 (scribelaw01_PackBack.j1 kq x4_1 x5_1 t436 (t436.length : Int) x17_1 x46_10 x433000_1 ((rd_T28 t436 x17_1).f0) ((rd_T28 t436 x17_1).f1) ((rd_T28 t436 x17_1).f2) = some r) ∧ Aside0 (kq ≤ k1) ∧ Aside0 (Kd.R k28 28 wc w.heap.size (fun k_ => some k_ ≠ ((.slice (some ad439) t436.length co7) : Value).ownBlock ∧ k_ ≠ gb440) u4 x4_1) ∧ Aside0 (Kd.R k28 28 wc w.heap.size (fun k_ => some k_ ≠ (u4 : Value).ownBlock ∧ k_ ≠ gb440) (.slice (some ad439) t436.length co7) t436) ∧ Aside0 (wc.heap[gb440]? = some (.cells #[.int .i64 ((rd_T28 t436 x17_1).f0), .int .i64 ((rd_T28 t436 x17_1).f1), .string ((rd_T28 t436 x17_1).f2)] 28 (0, 0))) ∧ Aside0 (IsS25 w wc gb432 x433000_1) ∧ Aside0 (Below w.heap.size w wc))
      case first =>
       have H := HC11.out
       clear HC11
       by_cases c15 : ((rd_T28 t436 x17_1).f0) = 3
       ·rw [if_pos c15] at H
        have c15b0 : (((rd_T28 t436 x17_1).f0) == 3) = true := beq_iff_eq.mpr c15
        have c15b1 : (((rd_T28 t436 x17_1).f0) != 3) = false := bne_eq_false_iff_eq.mpr c15
        clear c15
        (first | rw [c15b0] | (simp only [i64_w, i32_w]; rw [c15b0]) | skip)
        by_cases c16 : x5_1 ≥ 60
        ·rw [if_pos c16] at H
         have c16b0 : decide (60 ≤ x5_1) = true := decide_eq_true c16
         clear c16
         have H' := Aside0.mk H
         clear H
         have hnb17 := NB440_432.out
         have hnc17 := NB432_440.out
         have hcz18_0 : w12.cell? ⟨gb440, 0, none⟩ = some (.int .i64 0) := (blk_cell BK440.out 0).trans rfl
         have hcz18_1 : w12.cell? ⟨gb440, 1, none⟩ = some (.int .i64 0) := (blk_cell BK440.out 1).trans rfl
         have hcz18_2 : w12.cell? ⟨gb440, 2, none⟩ = some (.string (⟨#[]⟩ : ByteArray)) := (blk_cell BK440.out 2).trans rfl
         have hfz18_0 := blk_frozen BK440.out 0
         have hfz18_1 := blk_frozen BK440.out 1
         have hfz18_2 := blk_frozen BK440.out 2
         go_wp2
         go_meet
         case rel => exact ⟨_, (true), (by first | rfl | (simp; done) | (simp [*]; done) | (simp; unfold wrap64; omega)), H', ⟨by have := HK1.out; first | omega | exact Nat.le_refl _⟩, ⟨by (with_reducible repeat (first | apply Kd.R_alloc | apply Kd.R_drewN | apply Kd.R_drew)); exact Kd.R_mono (Kd.R_far (p := ⟨gb440, 2, none⟩) (Kd.R_far (p := ⟨gb440, 1, none⟩) (Kd.R_far (p := ⟨gb440, 0, none⟩) (Kd.R_mono HO_4.out (fun k_ hk => (⟨hk, hk.2⟩ : _ ∧ k_ ≠ gb440))) (fun _ hk => hk.2) (.int .i64 ((rd_T28 t436 x17_1).f0))) (fun _ hk => hk.2) (.int .i64 ((rd_T28 t436 x17_1).f1))) (fun _ hk => hk.2) (.string ((rd_T28 t436 x17_1).f2))) (fun _ hk => ⟨hk.1.1, hk.1.2⟩)⟩, ⟨by (with_reducible repeat (first | apply Kd.R_alloc | apply Kd.R_drewN | apply Kd.R_drew)); exact Kd.R_mono (Kd.R_far (p := ⟨gb440, 2, none⟩) (Kd.R_far (p := ⟨gb440, 1, none⟩) (Kd.R_far (p := ⟨gb440, 0, none⟩) (Kd.R_mono HO_15.out (fun k_ hk => (⟨hk, hk.2⟩ : _ ∧ k_ ≠ gb440))) (fun _ hk => hk.2) (.int .i64 ((rd_T28 t436 x17_1).f0))) (fun _ hk => hk.2) (.int .i64 ((rd_T28 t436 x17_1).f1))) (fun _ hk => hk.2) (.string ((rd_T28 t436 x17_1).f2))) (fun _ hk => ⟨hk.1.1, hk.1.2⟩)⟩, ⟨by (with_reducible repeat (first | refine blk_drewN ?_ _ | refine blk_drew ?_ | refine blk_alloc ?_ _)); refine blk_put (cs := #[.int .i64 ((rd_T28 t436 x17_1).f0), .int .i64 ((rd_T28 t436 x17_1).f1), .string (⟨#[]⟩ : ByteArray)]) ?_ 2 _ rfl; (with_reducible repeat (first | refine blk_drewN ?_ _ | refine blk_drew ?_ | refine blk_alloc ?_ _)); refine blk_put (cs := #[.int .i64 ((rd_T28 t436 x17_1).f0), .int .i64 0, .string (⟨#[]⟩ : ByteArray)]) ?_ 1 _ rfl; (with_reducible repeat (first | refine blk_drewN ?_ _ | refine blk_drew ?_ | refine blk_alloc ?_ _)); refine blk_put (cs := #[.int .i64 0, .int .i64 0, .string (⟨#[]⟩ : ByteArray)]) ?_ 0 _ rfl; (with_reducible repeat (first | refine blk_drewN ?_ _ | refine blk_drew ?_ | refine blk_alloc ?_ _)); exact BK440.out⟩, ⟨by repeat (first | (with_reducible first | exact HI432.out | apply IsS25.alloc | apply IsS25.drewN | apply IsS25.drew | apply IsS25.set_0 | refine IsS25.farB ?_ NB432_440.out (by repeat (first | exact Typ5.of BK440.out (by decide) | apply Typ5.set | apply Typ5.alloc | apply Typ5.drewN | apply Typ5.drew)) _) | exact HI432.out)⟩, ⟨by repeat (first | (with_reducible first | exact HB.out | apply below_alloc | apply pw_below_drewN | apply below_drew1 | refine below_set ?_ (IsS25.ge HI432.out) | refine below_set ?_ GE440.out) | exact HB.out)⟩⟩
        ·rw [if_neg c16] at H
         have c16b0 : decide (60 ≤ x5_1) = false := decide_eq_false c16
         clear c16
         by_cases c19 : ((rd_T28 t436 x17_1).f0) = 4
         ·rw [if_pos c19] at H
          have c19b0 : (((rd_T28 t436 x17_1).f0) == 4) = true := beq_iff_eq.mpr c19
          have c19b1 : (((rd_T28 t436 x17_1).f0) != 4) = false := bne_eq_false_iff_eq.mpr c19
          clear c19
          by_cases c20 : x5_1 = 0
          ·rw [if_pos c20] at H
           have c20b0 : (x5_1 == 0) = true := beq_iff_eq.mpr c20
           have c20b1 : (x5_1 != 0) = false := bne_eq_false_iff_eq.mpr c20
           clear c20
           have H' := Aside0.mk H
           clear H
           have hnb21 := NB440_432.out
           have hnc21 := NB432_440.out
           have hcz22_0 : w12.cell? ⟨gb440, 0, none⟩ = some (.int .i64 0) := (blk_cell BK440.out 0).trans rfl
           have hcz22_1 : w12.cell? ⟨gb440, 1, none⟩ = some (.int .i64 0) := (blk_cell BK440.out 1).trans rfl
           have hcz22_2 : w12.cell? ⟨gb440, 2, none⟩ = some (.string (⟨#[]⟩ : ByteArray)) := (blk_cell BK440.out 2).trans rfl
           have hfz22_0 := blk_frozen BK440.out 0
           have hfz22_1 := blk_frozen BK440.out 1
           have hfz22_2 := blk_frozen BK440.out 2
           go_wp2
           go_meet
           case rel => exact ⟨_, (true), (by first | rfl | (simp; done) | (simp [*]; done) | (simp; unfold wrap64; omega)), H', ⟨by have := HK1.out; first | omega | exact Nat.le_refl _⟩, ⟨by (with_reducible repeat (first | apply Kd.R_alloc | apply Kd.R_drewN | apply Kd.R_drew)); exact Kd.R_mono (Kd.R_far (p := ⟨gb440, 2, none⟩) (Kd.R_far (p := ⟨gb440, 1, none⟩) (Kd.R_far (p := ⟨gb440, 0, none⟩) (Kd.R_mono HO_4.out (fun k_ hk => (⟨hk, hk.2⟩ : _ ∧ k_ ≠ gb440))) (fun _ hk => hk.2) (.int .i64 ((rd_T28 t436 x17_1).f0))) (fun _ hk => hk.2) (.int .i64 ((rd_T28 t436 x17_1).f1))) (fun _ hk => hk.2) (.string ((rd_T28 t436 x17_1).f2))) (fun _ hk => ⟨hk.1.1, hk.1.2⟩)⟩, ⟨by (with_reducible repeat (first | apply Kd.R_alloc | apply Kd.R_drewN | apply Kd.R_drew)); exact Kd.R_mono (Kd.R_far (p := ⟨gb440, 2, none⟩) (Kd.R_far (p := ⟨gb440, 1, none⟩) (Kd.R_far (p := ⟨gb440, 0, none⟩) (Kd.R_mono HO_15.out (fun k_ hk => (⟨hk, hk.2⟩ : _ ∧ k_ ≠ gb440))) (fun _ hk => hk.2) (.int .i64 ((rd_T28 t436 x17_1).f0))) (fun _ hk => hk.2) (.int .i64 ((rd_T28 t436 x17_1).f1))) (fun _ hk => hk.2) (.string ((rd_T28 t436 x17_1).f2))) (fun _ hk => ⟨hk.1.1, hk.1.2⟩)⟩, ⟨by (with_reducible repeat (first | refine blk_drewN ?_ _ | refine blk_drew ?_ | refine blk_alloc ?_ _)); refine blk_put (cs := #[.int .i64 ((rd_T28 t436 x17_1).f0), .int .i64 ((rd_T28 t436 x17_1).f1), .string (⟨#[]⟩ : ByteArray)]) ?_ 2 _ rfl; (with_reducible repeat (first | refine blk_drewN ?_ _ | refine blk_drew ?_ | refine blk_alloc ?_ _)); refine blk_put (cs := #[.int .i64 ((rd_T28 t436 x17_1).f0), .int .i64 0, .string (⟨#[]⟩ : ByteArray)]) ?_ 1 _ rfl; (with_reducible repeat (first | refine blk_drewN ?_ _ | refine blk_drew ?_ | refine blk_alloc ?_ _)); refine blk_put (cs := #[.int .i64 0, .int .i64 0, .string (⟨#[]⟩ : ByteArray)]) ?_ 0 _ rfl; (with_reducible repeat (first | refine blk_drewN ?_ _ | refine blk_drew ?_ | refine blk_alloc ?_ _)); exact BK440.out⟩, ⟨by repeat (first | (with_reducible first | exact HI432.out | apply IsS25.alloc | apply IsS25.drewN | apply IsS25.drew | apply IsS25.set_0 | refine IsS25.farB ?_ NB432_440.out (by repeat (first | exact Typ5.of BK440.out (by decide) | apply Typ5.set | apply Typ5.alloc | apply Typ5.drewN | apply Typ5.drew)) _) | exact HI432.out)⟩, ⟨by repeat (first | (with_reducible first | exact HB.out | apply below_alloc | apply pw_below_drewN | apply below_drew1 | refine below_set ?_ (IsS25.ge HI432.out) | refine below_set ?_ GE440.out) | exact HB.out)⟩⟩
          ·rw [if_neg c20] at H
           have c20b0 : (x5_1 == 0) = false := beq_eq_false_iff_ne.mpr c20
           have c20b1 : (x5_1 != 0) = true := bne_iff_ne.mpr c20
           by_cases c23 : ((rd_T28 t436 x17_1).f0) < 1
           ·rw [if_pos c23] at H
            have c23b0 : decide (((rd_T28 t436 x17_1).f0) < 1) = true := decide_eq_true c23
            clear c23
            have H' := Aside0.mk H
            clear H
            have hnb24 := NB440_432.out
            have hnc24 := NB432_440.out
            have hcz25_0 : w12.cell? ⟨gb440, 0, none⟩ = some (.int .i64 0) := (blk_cell BK440.out 0).trans rfl
            have hcz25_1 : w12.cell? ⟨gb440, 1, none⟩ = some (.int .i64 0) := (blk_cell BK440.out 1).trans rfl
            have hcz25_2 : w12.cell? ⟨gb440, 2, none⟩ = some (.string (⟨#[]⟩ : ByteArray)) := (blk_cell BK440.out 2).trans rfl
            have hfz25_0 := blk_frozen BK440.out 0
            have hfz25_1 := blk_frozen BK440.out 1
            have hfz25_2 := blk_frozen BK440.out 2
            go_wp2
            go_meet
            case rel => exact ⟨_, (true), (by first | rfl | (simp; done) | (simp [*]; done) | (simp; unfold wrap64; omega)), H', ⟨by have := HK1.out; first | omega | exact Nat.le_refl _⟩, ⟨by (with_reducible repeat (first | apply Kd.R_alloc | apply Kd.R_drewN | apply Kd.R_drew)); exact Kd.R_mono (Kd.R_far (p := ⟨gb440, 2, none⟩) (Kd.R_far (p := ⟨gb440, 1, none⟩) (Kd.R_far (p := ⟨gb440, 0, none⟩) (Kd.R_mono HO_4.out (fun k_ hk => (⟨hk, hk.2⟩ : _ ∧ k_ ≠ gb440))) (fun _ hk => hk.2) (.int .i64 ((rd_T28 t436 x17_1).f0))) (fun _ hk => hk.2) (.int .i64 ((rd_T28 t436 x17_1).f1))) (fun _ hk => hk.2) (.string ((rd_T28 t436 x17_1).f2))) (fun _ hk => ⟨hk.1.1, hk.1.2⟩)⟩, ⟨by (with_reducible repeat (first | apply Kd.R_alloc | apply Kd.R_drewN | apply Kd.R_drew)); exact Kd.R_mono (Kd.R_far (p := ⟨gb440, 2, none⟩) (Kd.R_far (p := ⟨gb440, 1, none⟩) (Kd.R_far (p := ⟨gb440, 0, none⟩) (Kd.R_mono HO_15.out (fun k_ hk => (⟨hk, hk.2⟩ : _ ∧ k_ ≠ gb440))) (fun _ hk => hk.2) (.int .i64 ((rd_T28 t436 x17_1).f0))) (fun _ hk => hk.2) (.int .i64 ((rd_T28 t436 x17_1).f1))) (fun _ hk => hk.2) (.string ((rd_T28 t436 x17_1).f2))) (fun _ hk => ⟨hk.1.1, hk.1.2⟩)⟩, ⟨by (with_reducible repeat (first | refine blk_drewN ?_ _ | refine blk_drew ?_ | refine blk_alloc ?_ _)); refine blk_put (cs := #[.int .i64 ((rd_T28 t436 x17_1).f0), .int .i64 ((rd_T28 t436 x17_1).f1), .string (⟨#[]⟩ : ByteArray)]) ?_ 2 _ rfl; (with_reducible repeat (first | refine blk_drewN ?_ _ | refine blk_drew ?_ | refine blk_alloc ?_ _)); refine blk_put (cs := #[.int .i64 ((rd_T28 t436 x17_1).f0), .int .i64 0, .string (⟨#[]⟩ : ByteArray)]) ?_ 1 _ rfl; (with_reducible repeat (first | refine blk_drewN ?_ _ | refine blk_drew ?_ | refine blk_alloc ?_ _)); refine blk_put (cs := #[.int .i64 0, .int .i64 0, .string (⟨#[]⟩ : ByteArray)]) ?_ 0 _ rfl; (with_reducible repeat (first | refine blk_drewN ?_ _ | refine blk_drew ?_ | refine blk_alloc ?_ _)); exact BK440.out⟩, ⟨by repeat (first | (with_reducible first | exact HI432.out | apply IsS25.alloc | apply IsS25.drewN | apply IsS25.drew | apply IsS25.set_0 | refine IsS25.farB ?_ NB432_440.out (by repeat (first | exact Typ5.of BK440.out (by decide) | apply Typ5.set | apply Typ5.alloc | apply Typ5.drewN | apply Typ5.drew)) _) | exact HI432.out)⟩, ⟨by repeat (first | (with_reducible first | exact HB.out | apply below_alloc | apply pw_below_drewN | apply below_drew1 | refine below_set ?_ (IsS25.ge HI432.out) | refine below_set ?_ GE440.out) | exact HB.out)⟩⟩
           ·rw [if_neg c23] at H
            have c23b0 : decide (((rd_T28 t436 x17_1).f0) < 1) = false := decide_eq_false c23
            clear c23
            have H' := Aside0.mk H
            clear H
            have hnb26 := NB440_432.out
            have hnc26 := NB432_440.out
            have hcz27_0 : w12.cell? ⟨gb440, 0, none⟩ = some (.int .i64 0) := (blk_cell BK440.out 0).trans rfl
            have hcz27_1 : w12.cell? ⟨gb440, 1, none⟩ = some (.int .i64 0) := (blk_cell BK440.out 1).trans rfl
            have hcz27_2 : w12.cell? ⟨gb440, 2, none⟩ = some (.string (⟨#[]⟩ : ByteArray)) := (blk_cell BK440.out 2).trans rfl
            have hfz27_0 := blk_frozen BK440.out 0
            have hfz27_1 := blk_frozen BK440.out 1
            have hfz27_2 := blk_frozen BK440.out 2
            go_wp2
            go_meet
            case rel => exact ⟨_, (decide (((rd_T28 t436 x17_1).f0) > 4)), (by first | rfl | (simp; done) | (simp [*]; done) | (simp; unfold wrap64; omega)), H', ⟨by have := HK1.out; first | omega | exact Nat.le_refl _⟩, ⟨by (with_reducible repeat (first | apply Kd.R_alloc | apply Kd.R_drewN | apply Kd.R_drew)); exact Kd.R_mono (Kd.R_far (p := ⟨gb440, 2, none⟩) (Kd.R_far (p := ⟨gb440, 1, none⟩) (Kd.R_far (p := ⟨gb440, 0, none⟩) (Kd.R_mono HO_4.out (fun k_ hk => (⟨hk, hk.2⟩ : _ ∧ k_ ≠ gb440))) (fun _ hk => hk.2) (.int .i64 ((rd_T28 t436 x17_1).f0))) (fun _ hk => hk.2) (.int .i64 ((rd_T28 t436 x17_1).f1))) (fun _ hk => hk.2) (.string ((rd_T28 t436 x17_1).f2))) (fun _ hk => ⟨hk.1.1, hk.1.2⟩)⟩, ⟨by (with_reducible repeat (first | apply Kd.R_alloc | apply Kd.R_drewN | apply Kd.R_drew)); exact Kd.R_mono (Kd.R_far (p := ⟨gb440, 2, none⟩) (Kd.R_far (p := ⟨gb440, 1, none⟩) (Kd.R_far (p := ⟨gb440, 0, none⟩) (Kd.R_mono HO_15.out (fun k_ hk => (⟨hk, hk.2⟩ : _ ∧ k_ ≠ gb440))) (fun _ hk => hk.2) (.int .i64 ((rd_T28 t436 x17_1).f0))) (fun _ hk => hk.2) (.int .i64 ((rd_T28 t436 x17_1).f1))) (fun _ hk => hk.2) (.string ((rd_T28 t436 x17_1).f2))) (fun _ hk => ⟨hk.1.1, hk.1.2⟩)⟩, ⟨by (with_reducible repeat (first | refine blk_drewN ?_ _ | refine blk_drew ?_ | refine blk_alloc ?_ _)); refine blk_put (cs := #[.int .i64 ((rd_T28 t436 x17_1).f0), .int .i64 ((rd_T28 t436 x17_1).f1), .string (⟨#[]⟩ : ByteArray)]) ?_ 2 _ rfl; (with_reducible repeat (first | refine blk_drewN ?_ _ | refine blk_drew ?_ | refine blk_alloc ?_ _)); refine blk_put (cs := #[.int .i64 ((rd_T28 t436 x17_1).f0), .int .i64 0, .string (⟨#[]⟩ : ByteArray)]) ?_ 1 _ rfl; (with_reducible repeat (first | refine blk_drewN ?_ _ | refine blk_drew ?_ | refine blk_alloc ?_ _)); refine blk_put (cs := #[.int .i64 0, .int .i64 0, .string (⟨#[]⟩ : ByteArray)]) ?_ 0 _ rfl; (with_reducible repeat (first | refine blk_drewN ?_ _ | refine blk_drew ?_ | refine blk_alloc ?_ _)); exact BK440.out⟩, ⟨by repeat (first | (with_reducible first | exact HI432.out | apply IsS25.alloc | apply IsS25.drewN | apply IsS25.drew | apply IsS25.set_0 | refine IsS25.farB ?_ NB432_440.out (by repeat (first | exact Typ5.of BK440.out (by decide) | apply Typ5.set | apply Typ5.alloc | apply Typ5.drewN | apply Typ5.drew)) _) | exact HI432.out)⟩, ⟨by repeat (first | (with_reducible first | exact HB.out | apply below_alloc | apply pw_below_drewN | apply below_drew1 | refine below_set ?_ (IsS25.ge HI432.out) | refine below_set ?_ GE440.out) | exact HB.out)⟩⟩
         ·rw [if_neg c19] at H
          have c19b0 : (((rd_T28 t436 x17_1).f0) == 4) = false := beq_eq_false_iff_ne.mpr c19
          have c19b1 : (((rd_T28 t436 x17_1).f0) != 4) = true := bne_iff_ne.mpr c19
          by_cases c28 : ((rd_T28 t436 x17_1).f0) < 1
          ·rw [if_pos c28] at H
           have c28b0 : decide (((rd_T28 t436 x17_1).f0) < 1) = true := decide_eq_true c28
           clear c28
           have H' := Aside0.mk H
           clear H
           have hnb29 := NB440_432.out
           have hnc29 := NB432_440.out
           have hcz30_0 : w12.cell? ⟨gb440, 0, none⟩ = some (.int .i64 0) := (blk_cell BK440.out 0).trans rfl
           have hcz30_1 : w12.cell? ⟨gb440, 1, none⟩ = some (.int .i64 0) := (blk_cell BK440.out 1).trans rfl
           have hcz30_2 : w12.cell? ⟨gb440, 2, none⟩ = some (.string (⟨#[]⟩ : ByteArray)) := (blk_cell BK440.out 2).trans rfl
           have hfz30_0 := blk_frozen BK440.out 0
           have hfz30_1 := blk_frozen BK440.out 1
           have hfz30_2 := blk_frozen BK440.out 2
           go_wp2
           go_meet
           case rel => exact ⟨_, (true), (by first | rfl | (simp; done) | (simp [*]; done) | (simp; unfold wrap64; omega)), H', ⟨by have := HK1.out; first | omega | exact Nat.le_refl _⟩, ⟨by (with_reducible repeat (first | apply Kd.R_alloc | apply Kd.R_drewN | apply Kd.R_drew)); exact Kd.R_mono (Kd.R_far (p := ⟨gb440, 2, none⟩) (Kd.R_far (p := ⟨gb440, 1, none⟩) (Kd.R_far (p := ⟨gb440, 0, none⟩) (Kd.R_mono HO_4.out (fun k_ hk => (⟨hk, hk.2⟩ : _ ∧ k_ ≠ gb440))) (fun _ hk => hk.2) (.int .i64 ((rd_T28 t436 x17_1).f0))) (fun _ hk => hk.2) (.int .i64 ((rd_T28 t436 x17_1).f1))) (fun _ hk => hk.2) (.string ((rd_T28 t436 x17_1).f2))) (fun _ hk => ⟨hk.1.1, hk.1.2⟩)⟩, ⟨by (with_reducible repeat (first | apply Kd.R_alloc | apply Kd.R_drewN | apply Kd.R_drew)); exact Kd.R_mono (Kd.R_far (p := ⟨gb440, 2, none⟩) (Kd.R_far (p := ⟨gb440, 1, none⟩) (Kd.R_far (p := ⟨gb440, 0, none⟩) (Kd.R_mono HO_15.out (fun k_ hk => (⟨hk, hk.2⟩ : _ ∧ k_ ≠ gb440))) (fun _ hk => hk.2) (.int .i64 ((rd_T28 t436 x17_1).f0))) (fun _ hk => hk.2) (.int .i64 ((rd_T28 t436 x17_1).f1))) (fun _ hk => hk.2) (.string ((rd_T28 t436 x17_1).f2))) (fun _ hk => ⟨hk.1.1, hk.1.2⟩)⟩, ⟨by (with_reducible repeat (first | refine blk_drewN ?_ _ | refine blk_drew ?_ | refine blk_alloc ?_ _)); refine blk_put (cs := #[.int .i64 ((rd_T28 t436 x17_1).f0), .int .i64 ((rd_T28 t436 x17_1).f1), .string (⟨#[]⟩ : ByteArray)]) ?_ 2 _ rfl; (with_reducible repeat (first | refine blk_drewN ?_ _ | refine blk_drew ?_ | refine blk_alloc ?_ _)); refine blk_put (cs := #[.int .i64 ((rd_T28 t436 x17_1).f0), .int .i64 0, .string (⟨#[]⟩ : ByteArray)]) ?_ 1 _ rfl; (with_reducible repeat (first | refine blk_drewN ?_ _ | refine blk_drew ?_ | refine blk_alloc ?_ _)); refine blk_put (cs := #[.int .i64 0, .int .i64 0, .string (⟨#[]⟩ : ByteArray)]) ?_ 0 _ rfl; (with_reducible repeat (first | refine blk_drewN ?_ _ | refine blk_drew ?_ | refine blk_alloc ?_ _)); exact BK440.out⟩, ⟨by repeat (first | (with_reducible first | exact HI432.out | apply IsS25.alloc | apply IsS25.drewN | apply IsS25.drew | apply IsS25.set_0 | refine IsS25.farB ?_ NB432_440.out (by repeat (first | exact Typ5.of BK440.out (by decide) | apply Typ5.set | apply Typ5.alloc | apply Typ5.drewN | apply Typ5.drew)) _) | exact HI432.out)⟩, ⟨by repeat (first | (with_reducible first | exact HB.out | apply below_alloc | apply pw_below_drewN | apply below_drew1 | refine below_set ?_ (IsS25.ge HI432.out) | refine below_set ?_ GE440.out) | exact HB.out)⟩⟩
          ·rw [if_neg c28] at H
           have c28b0 : decide (((rd_T28 t436 x17_1).f0) < 1) = false := decide_eq_false c28
           clear c28
           have H' := Aside0.mk H
           clear H
           have hnb31 := NB440_432.out
           have hnc31 := NB432_440.out
           have hcz32_0 : w12.cell? ⟨gb440, 0, none⟩ = some (.int .i64 0) := (blk_cell BK440.out 0).trans rfl
           have hcz32_1 : w12.cell? ⟨gb440, 1, none⟩ = some (.int .i64 0) := (blk_cell BK440.out 1).trans rfl
           have hcz32_2 : w12.cell? ⟨gb440, 2, none⟩ = some (.string (⟨#[]⟩ : ByteArray)) := (blk_cell BK440.out 2).trans rfl
           have hfz32_0 := blk_frozen BK440.out 0
           have hfz32_1 := blk_frozen BK440.out 1
           have hfz32_2 := blk_frozen BK440.out 2
           go_wp2
           go_meet
           case rel => exact ⟨_, (decide (((rd_T28 t436 x17_1).f0) > 4)), (by first | rfl | (simp; done) | (simp [*]; done) | (simp; unfold wrap64; omega)), H', ⟨by have := HK1.out; first | omega | exact Nat.le_refl _⟩, ⟨by (with_reducible repeat (first | apply Kd.R_alloc | apply Kd.R_drewN | apply Kd.R_drew)); exact Kd.R_mono (Kd.R_far (p := ⟨gb440, 2, none⟩) (Kd.R_far (p := ⟨gb440, 1, none⟩) (Kd.R_far (p := ⟨gb440, 0, none⟩) (Kd.R_mono HO_4.out (fun k_ hk => (⟨hk, hk.2⟩ : _ ∧ k_ ≠ gb440))) (fun _ hk => hk.2) (.int .i64 ((rd_T28 t436 x17_1).f0))) (fun _ hk => hk.2) (.int .i64 ((rd_T28 t436 x17_1).f1))) (fun _ hk => hk.2) (.string ((rd_T28 t436 x17_1).f2))) (fun _ hk => ⟨hk.1.1, hk.1.2⟩)⟩, ⟨by (with_reducible repeat (first | apply Kd.R_alloc | apply Kd.R_drewN | apply Kd.R_drew)); exact Kd.R_mono (Kd.R_far (p := ⟨gb440, 2, none⟩) (Kd.R_far (p := ⟨gb440, 1, none⟩) (Kd.R_far (p := ⟨gb440, 0, none⟩) (Kd.R_mono HO_15.out (fun k_ hk => (⟨hk, hk.2⟩ : _ ∧ k_ ≠ gb440))) (fun _ hk => hk.2) (.int .i64 ((rd_T28 t436 x17_1).f0))) (fun _ hk => hk.2) (.int .i64 ((rd_T28 t436 x17_1).f1))) (fun _ hk => hk.2) (.string ((rd_T28 t436 x17_1).f2))) (fun _ hk => ⟨hk.1.1, hk.1.2⟩)⟩, ⟨by (with_reducible repeat (first | refine blk_drewN ?_ _ | refine blk_drew ?_ | refine blk_alloc ?_ _)); refine blk_put (cs := #[.int .i64 ((rd_T28 t436 x17_1).f0), .int .i64 ((rd_T28 t436 x17_1).f1), .string (⟨#[]⟩ : ByteArray)]) ?_ 2 _ rfl; (with_reducible repeat (first | refine blk_drewN ?_ _ | refine blk_drew ?_ | refine blk_alloc ?_ _)); refine blk_put (cs := #[.int .i64 ((rd_T28 t436 x17_1).f0), .int .i64 0, .string (⟨#[]⟩ : ByteArray)]) ?_ 1 _ rfl; (with_reducible repeat (first | refine blk_drewN ?_ _ | refine blk_drew ?_ | refine blk_alloc ?_ _)); refine blk_put (cs := #[.int .i64 0, .int .i64 0, .string (⟨#[]⟩ : ByteArray)]) ?_ 0 _ rfl; (with_reducible repeat (first | refine blk_drewN ?_ _ | refine blk_drew ?_ | refine blk_alloc ?_ _)); exact BK440.out⟩, ⟨by repeat (first | (with_reducible first | exact HI432.out | apply IsS25.alloc | apply IsS25.drewN | apply IsS25.drew | apply IsS25.set_0 | refine IsS25.farB ?_ NB432_440.out (by repeat (first | exact Typ5.of BK440.out (by decide) | apply Typ5.set | apply Typ5.alloc | apply Typ5.drewN | apply Typ5.drew)) _) | exact HI432.out)⟩, ⟨by repeat (first | (with_reducible first | exact HB.out | apply below_alloc | apply pw_below_drewN | apply below_drew1 | refine below_set ?_ (IsS25.ge HI432.out) | refine below_set ?_ GE440.out) | exact HB.out)⟩⟩
       ·rw [if_neg c15] at H
        have c15b0 : (((rd_T28 t436 x17_1).f0) == 3) = false := beq_eq_false_iff_ne.mpr c15
        have c15b1 : (((rd_T28 t436 x17_1).f0) != 3) = true := bne_iff_ne.mpr c15
        (first | rw [c15b0] | (simp only [i64_w, i32_w]; rw [c15b0]) | skip)
        by_cases c33 : ((rd_T28 t436 x17_1).f0) = 4
        ·rw [if_pos c33] at H
         have c33b0 : (((rd_T28 t436 x17_1).f0) == 4) = true := beq_iff_eq.mpr c33
         have c33b1 : (((rd_T28 t436 x17_1).f0) != 4) = false := bne_eq_false_iff_eq.mpr c33
         clear c33
         by_cases c34 : x5_1 = 0
         ·rw [if_pos c34] at H
          have c34b0 : (x5_1 == 0) = true := beq_iff_eq.mpr c34
          have c34b1 : (x5_1 != 0) = false := bne_eq_false_iff_eq.mpr c34
          clear c34
          have H' := Aside0.mk H
          clear H
          have hnb35 := NB440_432.out
          have hnc35 := NB432_440.out
          have hcz36_0 : w12.cell? ⟨gb440, 0, none⟩ = some (.int .i64 0) := (blk_cell BK440.out 0).trans rfl
          have hcz36_1 : w12.cell? ⟨gb440, 1, none⟩ = some (.int .i64 0) := (blk_cell BK440.out 1).trans rfl
          have hcz36_2 : w12.cell? ⟨gb440, 2, none⟩ = some (.string (⟨#[]⟩ : ByteArray)) := (blk_cell BK440.out 2).trans rfl
          have hfz36_0 := blk_frozen BK440.out 0
          have hfz36_1 := blk_frozen BK440.out 1
          have hfz36_2 := blk_frozen BK440.out 2
          go_wp2
          go_meet
          case rel => exact ⟨_, (true), (by first | rfl | (simp; done) | (simp [*]; done) | (simp; unfold wrap64; omega)), H', ⟨by have := HK1.out; first | omega | exact Nat.le_refl _⟩, ⟨by (with_reducible repeat (first | apply Kd.R_alloc | apply Kd.R_drewN | apply Kd.R_drew)); exact Kd.R_mono (Kd.R_far (p := ⟨gb440, 2, none⟩) (Kd.R_far (p := ⟨gb440, 1, none⟩) (Kd.R_far (p := ⟨gb440, 0, none⟩) (Kd.R_mono HO_4.out (fun k_ hk => (⟨hk, hk.2⟩ : _ ∧ k_ ≠ gb440))) (fun _ hk => hk.2) (.int .i64 ((rd_T28 t436 x17_1).f0))) (fun _ hk => hk.2) (.int .i64 ((rd_T28 t436 x17_1).f1))) (fun _ hk => hk.2) (.string ((rd_T28 t436 x17_1).f2))) (fun _ hk => ⟨hk.1.1, hk.1.2⟩)⟩, ⟨by (with_reducible repeat (first | apply Kd.R_alloc | apply Kd.R_drewN | apply Kd.R_drew)); exact Kd.R_mono (Kd.R_far (p := ⟨gb440, 2, none⟩) (Kd.R_far (p := ⟨gb440, 1, none⟩) (Kd.R_far (p := ⟨gb440, 0, none⟩) (Kd.R_mono HO_15.out (fun k_ hk => (⟨hk, hk.2⟩ : _ ∧ k_ ≠ gb440))) (fun _ hk => hk.2) (.int .i64 ((rd_T28 t436 x17_1).f0))) (fun _ hk => hk.2) (.int .i64 ((rd_T28 t436 x17_1).f1))) (fun _ hk => hk.2) (.string ((rd_T28 t436 x17_1).f2))) (fun _ hk => ⟨hk.1.1, hk.1.2⟩)⟩, ⟨by (with_reducible repeat (first | refine blk_drewN ?_ _ | refine blk_drew ?_ | refine blk_alloc ?_ _)); refine blk_put (cs := #[.int .i64 ((rd_T28 t436 x17_1).f0), .int .i64 ((rd_T28 t436 x17_1).f1), .string (⟨#[]⟩ : ByteArray)]) ?_ 2 _ rfl; (with_reducible repeat (first | refine blk_drewN ?_ _ | refine blk_drew ?_ | refine blk_alloc ?_ _)); refine blk_put (cs := #[.int .i64 ((rd_T28 t436 x17_1).f0), .int .i64 0, .string (⟨#[]⟩ : ByteArray)]) ?_ 1 _ rfl; (with_reducible repeat (first | refine blk_drewN ?_ _ | refine blk_drew ?_ | refine blk_alloc ?_ _)); refine blk_put (cs := #[.int .i64 0, .int .i64 0, .string (⟨#[]⟩ : ByteArray)]) ?_ 0 _ rfl; (with_reducible repeat (first | refine blk_drewN ?_ _ | refine blk_drew ?_ | refine blk_alloc ?_ _)); exact BK440.out⟩, ⟨by repeat (first | (with_reducible first | exact HI432.out | apply IsS25.alloc | apply IsS25.drewN | apply IsS25.drew | apply IsS25.set_0 | refine IsS25.farB ?_ NB432_440.out (by repeat (first | exact Typ5.of BK440.out (by decide) | apply Typ5.set | apply Typ5.alloc | apply Typ5.drewN | apply Typ5.drew)) _) | exact HI432.out)⟩, ⟨by repeat (first | (with_reducible first | exact HB.out | apply below_alloc | apply pw_below_drewN | apply below_drew1 | refine below_set ?_ (IsS25.ge HI432.out) | refine below_set ?_ GE440.out) | exact HB.out)⟩⟩
         ·rw [if_neg c34] at H
          have c34b0 : (x5_1 == 0) = false := beq_eq_false_iff_ne.mpr c34
          have c34b1 : (x5_1 != 0) = true := bne_iff_ne.mpr c34
          by_cases c37 : ((rd_T28 t436 x17_1).f0) < 1
          ·rw [if_pos c37] at H
           have c37b0 : decide (((rd_T28 t436 x17_1).f0) < 1) = true := decide_eq_true c37
           clear c37
           have H' := Aside0.mk H
           clear H
           have hnb38 := NB440_432.out
           have hnc38 := NB432_440.out
           have hcz39_0 : w12.cell? ⟨gb440, 0, none⟩ = some (.int .i64 0) := (blk_cell BK440.out 0).trans rfl
           have hcz39_1 : w12.cell? ⟨gb440, 1, none⟩ = some (.int .i64 0) := (blk_cell BK440.out 1).trans rfl
           have hcz39_2 : w12.cell? ⟨gb440, 2, none⟩ = some (.string (⟨#[]⟩ : ByteArray)) := (blk_cell BK440.out 2).trans rfl
           have hfz39_0 := blk_frozen BK440.out 0
           have hfz39_1 := blk_frozen BK440.out 1
           have hfz39_2 := blk_frozen BK440.out 2
           go_wp2
           go_meet
           case rel => exact ⟨_, (true), (by first | rfl | (simp; done) | (simp [*]; done) | (simp; unfold wrap64; omega)), H', ⟨by have := HK1.out; first | omega | exact Nat.le_refl _⟩, ⟨by (with_reducible repeat (first | apply Kd.R_alloc | apply Kd.R_drewN | apply Kd.R_drew)); exact Kd.R_mono (Kd.R_far (p := ⟨gb440, 2, none⟩) (Kd.R_far (p := ⟨gb440, 1, none⟩) (Kd.R_far (p := ⟨gb440, 0, none⟩) (Kd.R_mono HO_4.out (fun k_ hk => (⟨hk, hk.2⟩ : _ ∧ k_ ≠ gb440))) (fun _ hk => hk.2) (.int .i64 ((rd_T28 t436 x17_1).f0))) (fun _ hk => hk.2) (.int .i64 ((rd_T28 t436 x17_1).f1))) (fun _ hk => hk.2) (.string ((rd_T28 t436 x17_1).f2))) (fun _ hk => ⟨hk.1.1, hk.1.2⟩)⟩, ⟨by (with_reducible repeat (first | apply Kd.R_alloc | apply Kd.R_drewN | apply Kd.R_drew)); exact Kd.R_mono (Kd.R_far (p := ⟨gb440, 2, none⟩) (Kd.R_far (p := ⟨gb440, 1, none⟩) (Kd.R_far (p := ⟨gb440, 0, none⟩) (Kd.R_mono HO_15.out (fun k_ hk => (⟨hk, hk.2⟩ : _ ∧ k_ ≠ gb440))) (fun _ hk => hk.2) (.int .i64 ((rd_T28 t436 x17_1).f0))) (fun _ hk => hk.2) (.int .i64 ((rd_T28 t436 x17_1).f1))) (fun _ hk => hk.2) (.string ((rd_T28 t436 x17_1).f2))) (fun _ hk => ⟨hk.1.1, hk.1.2⟩)⟩, ⟨by (with_reducible repeat (first | refine blk_drewN ?_ _ | refine blk_drew ?_ | refine blk_alloc ?_ _)); refine blk_put (cs := #[.int .i64 ((rd_T28 t436 x17_1).f0), .int .i64 ((rd_T28 t436 x17_1).f1), .string (⟨#[]⟩ : ByteArray)]) ?_ 2 _ rfl; (with_reducible repeat (first | refine blk_drewN ?_ _ | refine blk_drew ?_ | refine blk_alloc ?_ _)); refine blk_put (cs := #[.int .i64 ((rd_T28 t436 x17_1).f0), .int .i64 0, .string (⟨#[]⟩ : ByteArray)]) ?_ 1 _ rfl; (with_reducible repeat (first | refine blk_drewN ?_ _ | refine blk_drew ?_ | refine blk_alloc ?_ _)); refine blk_put (cs := #[.int .i64 0, .int .i64 0, .string (⟨#[]⟩ : ByteArray)]) ?_ 0 _ rfl; (with_reducible repeat (first | refine blk_drewN ?_ _ | refine blk_drew ?_ | refine blk_alloc ?_ _)); exact BK440.out⟩, ⟨by repeat (first | (with_reducible first | exact HI432.out | apply IsS25.alloc | apply IsS25.drewN | apply IsS25.drew | apply IsS25.set_0 | refine IsS25.farB ?_ NB432_440.out (by repeat (first | exact Typ5.of BK440.out (by decide) | apply Typ5.set | apply Typ5.alloc | apply Typ5.drewN | apply Typ5.drew)) _) | exact HI432.out)⟩, ⟨by repeat (first | (with_reducible first | exact HB.out | apply below_alloc | apply pw_below_drewN | apply below_drew1 | refine below_set ?_ (IsS25.ge HI432.out) | refine below_set ?_ GE440.out) | exact HB.out)⟩⟩
          ·rw [if_neg c37] at H
           have c37b0 : decide (((rd_T28 t436 x17_1).f0) < 1) = false := decide_eq_false c37
           clear c37
           have H' := Aside0.mk H
           clear H
           have hnb40 := NB440_432.out
           have hnc40 := NB432_440.out
           have hcz41_0 : w12.cell? ⟨gb440, 0, none⟩ = some (.int .i64 0) := (blk_cell BK440.out 0).trans rfl
           have hcz41_1 : w12.cell? ⟨gb440, 1, none⟩ = some (.int .i64 0) := (blk_cell BK440.out 1).trans rfl
           have hcz41_2 : w12.cell? ⟨gb440, 2, none⟩ = some (.string (⟨#[]⟩ : ByteArray)) := (blk_cell BK440.out 2).trans rfl
           have hfz41_0 := blk_frozen BK440.out 0
           have hfz41_1 := blk_frozen BK440.out 1
           have hfz41_2 := blk_frozen BK440.out 2
           go_wp2
           go_meet
           case rel => exact ⟨_, (decide (((rd_T28 t436 x17_1).f0) > 4)), (by first | rfl | (simp; done) | (simp [*]; done) | (simp; unfold wrap64; omega)), H', ⟨by have := HK1.out; first | omega | exact Nat.le_refl _⟩, ⟨by (with_reducible repeat (first | apply Kd.R_alloc | apply Kd.R_drewN | apply Kd.R_drew)); exact Kd.R_mono (Kd.R_far (p := ⟨gb440, 2, none⟩) (Kd.R_far (p := ⟨gb440, 1, none⟩) (Kd.R_far (p := ⟨gb440, 0, none⟩) (Kd.R_mono HO_4.out (fun k_ hk => (⟨hk, hk.2⟩ : _ ∧ k_ ≠ gb440))) (fun _ hk => hk.2) (.int .i64 ((rd_T28 t436 x17_1).f0))) (fun _ hk => hk.2) (.int .i64 ((rd_T28 t436 x17_1).f1))) (fun _ hk => hk.2) (.string ((rd_T28 t436 x17_1).f2))) (fun _ hk => ⟨hk.1.1, hk.1.2⟩)⟩, ⟨by (with_reducible repeat (first | apply Kd.R_alloc | apply Kd.R_drewN | apply Kd.R_drew)); exact Kd.R_mono (Kd.R_far (p := ⟨gb440, 2, none⟩) (Kd.R_far (p := ⟨gb440, 1, none⟩) (Kd.R_far (p := ⟨gb440, 0, none⟩) (Kd.R_mono HO_15.out (fun k_ hk => (⟨hk, hk.2⟩ : _ ∧ k_ ≠ gb440))) (fun _ hk => hk.2) (.int .i64 ((rd_T28 t436 x17_1).f0))) (fun _ hk => hk.2) (.int .i64 ((rd_T28 t436 x17_1).f1))) (fun _ hk => hk.2) (.string ((rd_T28 t436 x17_1).f2))) (fun _ hk => ⟨hk.1.1, hk.1.2⟩)⟩, ⟨by (with_reducible repeat (first | refine blk_drewN ?_ _ | refine blk_drew ?_ | refine blk_alloc ?_ _)); refine blk_put (cs := #[.int .i64 ((rd_T28 t436 x17_1).f0), .int .i64 ((rd_T28 t436 x17_1).f1), .string (⟨#[]⟩ : ByteArray)]) ?_ 2 _ rfl; (with_reducible repeat (first | refine blk_drewN ?_ _ | refine blk_drew ?_ | refine blk_alloc ?_ _)); refine blk_put (cs := #[.int .i64 ((rd_T28 t436 x17_1).f0), .int .i64 0, .string (⟨#[]⟩ : ByteArray)]) ?_ 1 _ rfl; (with_reducible repeat (first | refine blk_drewN ?_ _ | refine blk_drew ?_ | refine blk_alloc ?_ _)); refine blk_put (cs := #[.int .i64 0, .int .i64 0, .string (⟨#[]⟩ : ByteArray)]) ?_ 0 _ rfl; (with_reducible repeat (first | refine blk_drewN ?_ _ | refine blk_drew ?_ | refine blk_alloc ?_ _)); exact BK440.out⟩, ⟨by repeat (first | (with_reducible first | exact HI432.out | apply IsS25.alloc | apply IsS25.drewN | apply IsS25.drew | apply IsS25.set_0 | refine IsS25.farB ?_ NB432_440.out (by repeat (first | exact Typ5.of BK440.out (by decide) | apply Typ5.set | apply Typ5.alloc | apply Typ5.drewN | apply Typ5.drew)) _) | exact HI432.out)⟩, ⟨by repeat (first | (with_reducible first | exact HB.out | apply below_alloc | apply pw_below_drewN | apply below_drew1 | refine below_set ?_ (IsS25.ge HI432.out) | refine below_set ?_ GE440.out) | exact HB.out)⟩⟩
        ·rw [if_neg c33] at H
         have c33b0 : (((rd_T28 t436 x17_1).f0) == 4) = false := beq_eq_false_iff_ne.mpr c33
         have c33b1 : (((rd_T28 t436 x17_1).f0) != 4) = true := bne_iff_ne.mpr c33
         by_cases c42 : ((rd_T28 t436 x17_1).f0) < 1
         ·rw [if_pos c42] at H
          have c42b0 : decide (((rd_T28 t436 x17_1).f0) < 1) = true := decide_eq_true c42
          clear c42
          have H' := Aside0.mk H
          clear H
          have hnb43 := NB440_432.out
          have hnc43 := NB432_440.out
          have hcz44_0 : w12.cell? ⟨gb440, 0, none⟩ = some (.int .i64 0) := (blk_cell BK440.out 0).trans rfl
          have hcz44_1 : w12.cell? ⟨gb440, 1, none⟩ = some (.int .i64 0) := (blk_cell BK440.out 1).trans rfl
          have hcz44_2 : w12.cell? ⟨gb440, 2, none⟩ = some (.string (⟨#[]⟩ : ByteArray)) := (blk_cell BK440.out 2).trans rfl
          have hfz44_0 := blk_frozen BK440.out 0
          have hfz44_1 := blk_frozen BK440.out 1
          have hfz44_2 := blk_frozen BK440.out 2
          go_wp2
          go_meet
          case rel => exact ⟨_, (true), (by first | rfl | (simp; done) | (simp [*]; done) | (simp; unfold wrap64; omega)), H', ⟨by have := HK1.out; first | omega | exact Nat.le_refl _⟩, ⟨by (with_reducible repeat (first | apply Kd.R_alloc | apply Kd.R_drewN | apply Kd.R_drew)); exact Kd.R_mono (Kd.R_far (p := ⟨gb440, 2, none⟩) (Kd.R_far (p := ⟨gb440, 1, none⟩) (Kd.R_far (p := ⟨gb440, 0, none⟩) (Kd.R_mono HO_4.out (fun k_ hk => (⟨hk, hk.2⟩ : _ ∧ k_ ≠ gb440))) (fun _ hk => hk.2) (.int .i64 ((rd_T28 t436 x17_1).f0))) (fun _ hk => hk.2) (.int .i64 ((rd_T28 t436 x17_1).f1))) (fun _ hk => hk.2) (.string ((rd_T28 t436 x17_1).f2))) (fun _ hk => ⟨hk.1.1, hk.1.2⟩)⟩, ⟨by (with_reducible repeat (first | apply Kd.R_alloc | apply Kd.R_drewN | apply Kd.R_drew)); exact Kd.R_mono (Kd.R_far (p := ⟨gb440, 2, none⟩) (Kd.R_far (p := ⟨gb440, 1, none⟩) (Kd.R_far (p := ⟨gb440, 0, none⟩) (Kd.R_mono HO_15.out (fun k_ hk => (⟨hk, hk.2⟩ : _ ∧ k_ ≠ gb440))) (fun _ hk => hk.2) (.int .i64 ((rd_T28 t436 x17_1).f0))) (fun _ hk => hk.2) (.int .i64 ((rd_T28 t436 x17_1).f1))) (fun _ hk => hk.2) (.string ((rd_T28 t436 x17_1).f2))) (fun _ hk => ⟨hk.1.1, hk.1.2⟩)⟩, ⟨by (with_reducible repeat (first | refine blk_drewN ?_ _ | refine blk_drew ?_ | refine blk_alloc ?_ _)); refine blk_put (cs := #[.int .i64 ((rd_T28 t436 x17_1).f0), .int .i64 ((rd_T28 t436 x17_1).f1), .string (⟨#[]⟩ : ByteArray)]) ?_ 2 _ rfl; (with_reducible repeat (first | refine blk_drewN ?_ _ | refine blk_drew ?_ | refine blk_alloc ?_ _)); refine blk_put (cs := #[.int .i64 ((rd_T28 t436 x17_1).f0), .int .i64 0, .string (⟨#[]⟩ : ByteArray)]) ?_ 1 _ rfl; (with_reducible repeat (first | refine blk_drewN ?_ _ | refine blk_drew ?_ | refine blk_alloc ?_ _)); refine blk_put (cs := #[.int .i64 0, .int .i64 0, .string (⟨#[]⟩ : ByteArray)]) ?_ 0 _ rfl; (with_reducible repeat (first | refine blk_drewN ?_ _ | refine blk_drew ?_ | refine blk_alloc ?_ _)); exact BK440.out⟩, ⟨by repeat (first | (with_reducible first | exact HI432.out | apply IsS25.alloc | apply IsS25.drewN | apply IsS25.drew | apply IsS25.set_0 | refine IsS25.farB ?_ NB432_440.out (by repeat (first | exact Typ5.of BK440.out (by decide) | apply Typ5.set | apply Typ5.alloc | apply Typ5.drewN | apply Typ5.drew)) _) | exact HI432.out)⟩, ⟨by repeat (first | (with_reducible first | exact HB.out | apply below_alloc | apply pw_below_drewN | apply below_drew1 | refine below_set ?_ (IsS25.ge HI432.out) | refine below_set ?_ GE440.out) | exact HB.out)⟩⟩
         ·rw [if_neg c42] at H
          have c42b0 : decide (((rd_T28 t436 x17_1).f0) < 1) = false := decide_eq_false c42
          clear c42
          have H' := Aside0.mk H
          clear H
          have hnb45 := NB440_432.out
          have hnc45 := NB432_440.out
          have hcz46_0 : w12.cell? ⟨gb440, 0, none⟩ = some (.int .i64 0) := (blk_cell BK440.out 0).trans rfl
          have hcz46_1 : w12.cell? ⟨gb440, 1, none⟩ = some (.int .i64 0) := (blk_cell BK440.out 1).trans rfl
          have hcz46_2 : w12.cell? ⟨gb440, 2, none⟩ = some (.string (⟨#[]⟩ : ByteArray)) := (blk_cell BK440.out 2).trans rfl
          have hfz46_0 := blk_frozen BK440.out 0
          have hfz46_1 := blk_frozen BK440.out 1
          have hfz46_2 := blk_frozen BK440.out 2
          go_wp2
          go_meet
          case rel => exact ⟨_, (decide (((rd_T28 t436 x17_1).f0) > 4)), (by first | rfl | (simp; done) | (simp [*]; done) | (simp; unfold wrap64; omega)), H', ⟨by have := HK1.out; first | omega | exact Nat.le_refl _⟩, ⟨by (with_reducible repeat (first | apply Kd.R_alloc | apply Kd.R_drewN | apply Kd.R_drew)); exact Kd.R_mono (Kd.R_far (p := ⟨gb440, 2, none⟩) (Kd.R_far (p := ⟨gb440, 1, none⟩) (Kd.R_far (p := ⟨gb440, 0, none⟩) (Kd.R_mono HO_4.out (fun k_ hk => (⟨hk, hk.2⟩ : _ ∧ k_ ≠ gb440))) (fun _ hk => hk.2) (.int .i64 ((rd_T28 t436 x17_1).f0))) (fun _ hk => hk.2) (.int .i64 ((rd_T28 t436 x17_1).f1))) (fun _ hk => hk.2) (.string ((rd_T28 t436 x17_1).f2))) (fun _ hk => ⟨hk.1.1, hk.1.2⟩)⟩, ⟨by (with_reducible repeat (first | apply Kd.R_alloc | apply Kd.R_drewN | apply Kd.R_drew)); exact Kd.R_mono (Kd.R_far (p := ⟨gb440, 2, none⟩) (Kd.R_far (p := ⟨gb440, 1, none⟩) (Kd.R_far (p := ⟨gb440, 0, none⟩) (Kd.R_mono HO_15.out (fun k_ hk => (⟨hk, hk.2⟩ : _ ∧ k_ ≠ gb440))) (fun _ hk => hk.2) (.int .i64 ((rd_T28 t436 x17_1).f0))) (fun _ hk => hk.2) (.int .i64 ((rd_T28 t436 x17_1).f1))) (fun _ hk => hk.2) (.string ((rd_T28 t436 x17_1).f2))) (fun _ hk => ⟨hk.1.1, hk.1.2⟩)⟩, ⟨by (with_reducible repeat (first | refine blk_drewN ?_ _ | refine blk_drew ?_ | refine blk_alloc ?_ _)); refine blk_put (cs := #[.int .i64 ((rd_T28 t436 x17_1).f0), .int .i64 ((rd_T28 t436 x17_1).f1), .string (⟨#[]⟩ : ByteArray)]) ?_ 2 _ rfl; (with_reducible repeat (first | refine blk_drewN ?_ _ | refine blk_drew ?_ | refine blk_alloc ?_ _)); refine blk_put (cs := #[.int .i64 ((rd_T28 t436 x17_1).f0), .int .i64 0, .string (⟨#[]⟩ : ByteArray)]) ?_ 1 _ rfl; (with_reducible repeat (first | refine blk_drewN ?_ _ | refine blk_drew ?_ | refine blk_alloc ?_ _)); refine blk_put (cs := #[.int .i64 0, .int .i64 0, .string (⟨#[]⟩ : ByteArray)]) ?_ 0 _ rfl; (with_reducible repeat (first | refine blk_drewN ?_ _ | refine blk_drew ?_ | refine blk_alloc ?_ _)); exact BK440.out⟩, ⟨by repeat (first | (with_reducible first | exact HI432.out | apply IsS25.alloc | apply IsS25.drewN | apply IsS25.drew | apply IsS25.set_0 | refine IsS25.farB ?_ NB432_440.out (by repeat (first | exact Typ5.of BK440.out (by decide) | apply Typ5.set | apply Typ5.alloc | apply Typ5.drewN | apply Typ5.drew)) _) | exact HI432.out)⟩, ⟨by repeat (first | (with_reducible first | exact HB.out | apply below_alloc | apply pw_below_drewN | apply below_drew1 | refine below_set ?_ (IsS25.ge HI432.out) | refine below_set ?_ GE440.out) | exact HB.out)⟩⟩
      case rest =>
       clear HC11
       try clear c1
       try clear c2
       try clear p2
       try clear c3
       try clear c4
       try clear p4
       try clear q4
       try clear hx4
       try clear c5
       try clear p6
       try clear c8
       try clear c8b0
       try clear c9
       try clear c9b0
       try clear c10
       try clear c10b0
       try clear c11
       try clear c13
       try clear c15
       try clear c15b0
       try clear c15b1
       try clear c16
       try clear c16b0
       try clear c17
       try clear c19
       try clear c19b0
       try clear c19b1
       try clear c20
       try clear c20b0
       try clear c20b1
       try clear c21
       try clear c23
       try clear c23b0
       try clear c24
       try clear c26
       try clear c28
       try clear c28b0
       try clear c29
       try clear c31
       try clear c33
       try clear c33b0
       try clear c33b1
       try clear c34
       try clear c34b0
       try clear c34b1
       try clear c35
       try clear c37
       try clear c37b0
       try clear c38
       try clear c40
       try clear c42
       try clear c42b0
       try clear c43
       try clear p43
       try clear q43
       try clear hx43
       try clear c45
       try clear hcz14_0
       try clear hcz14_1
       try clear hcz14_2
       try clear hcz18_0
       try clear hcz18_1
       try clear hcz18_2
       try clear hcz22_0
       try clear hcz22_1
       try clear hcz22_2
       try clear hcz25_0
       try clear hcz25_1
       try clear hcz25_2
       try clear hcz27_0
       try clear hcz27_1
       try clear hcz27_2
       try clear hcz30_0
       try clear hcz30_1
       try clear hcz30_2
       try clear hcz32_0
       try clear hcz32_1
       try clear hcz32_2
       try clear hcz36_0
       try clear hcz36_1
       try clear hcz36_2
       try clear hcz39_0
       try clear hcz39_1
       try clear hcz39_2
       try clear hcz41_0
       try clear hcz41_1
       try clear hcz41_2
       try clear hcz44_0
       try clear hcz44_1
       try clear hcz44_2
       try clear hcz46_0
       try clear hcz46_1
       try clear hcz46_2
       try clear hfz14_0
       try clear hfz14_1
       try clear hfz14_2
       try clear hfz18_0
       try clear hfz18_1
       try clear hfz18_2
       try clear hfz22_0
       try clear hfz22_1
       try clear hfz22_2
       try clear hfz25_0
       try clear hfz25_1
       try clear hfz25_2
       try clear hfz27_0
       try clear hfz27_1
       try clear hfz27_2
       try clear hfz30_0
       try clear hfz30_1
       try clear hfz30_2
       try clear hfz32_0
       try clear hfz32_1
       try clear hfz32_2
       try clear hfz36_0
       try clear hfz36_1
       try clear hfz36_2
       try clear hfz39_0
       try clear hfz39_1
       try clear hfz39_2
       try clear hfz41_0
       try clear hfz41_1
       try clear hfz41_2
       try clear hfz44_0
       try clear hfz44_1
       try clear hfz44_2
       try clear hfz46_0
       try clear hfz46_1
       try clear hfz46_2
       try clear hx439_0
       try clear hx439_1
       try clear hx439_2
       try clear p2
       try clear p439
       try clear p6
       try clear q439
       obtain ⟨kq, x46_10, rfl, HA, HJ10, HO_4, HO_15, BK440, HI432, HB⟩ := hcut
       cases kq with
       | zero => exact absurd HA.out (by simp [scribelaw01_PackBack.j1])
       | succ kj10 =>
        have H := HA.out
        clear HA
        simp only [scribelaw01_PackBack.j1] at H
        by_cases c47 : x46_10 = true
        ·subst c47
         have H1 : (scribelaw01_PackBack.l0 kj10 x4_1 x5_1 t436 (t436.length : Int) (wrap64 (x17_1 + 1)) x433000_1) = some r := by rw [if_pos rfl] at H; exact H
         clear H
         have H := H1
         clear H1
         have H' := Aside0.mk H
         clear H
         go_wp2
         go_roundg kj10
         case measure => have := HK1.out; have := HJ10.out; omega
         case rel => exact ⟨(x4_1), (x5_1), (wrap64 (x17_1 + 1)), (x433000_1), (by first | rfl | (simp; done) | (simp [*]; done) | (simp; unfold wrap64; omega)), (by first | rfl | (simp; done) | (simp [*]; done) | (simp; unfold wrap64; omega)), H', ⟨by have := HK1.out; have := HJ10.out; omega⟩, ⟨by (with_reducible repeat (first | apply Kd.R_alloc | apply Kd.R_drewN | apply Kd.R_drew)); exact Kd.R_mono HO_4.out (fun _ hk => hk.1)⟩, ⟨by (with_reducible repeat (first | apply Kd.R_alloc | apply Kd.R_drewN | apply Kd.R_drew)); exact Kd.R_mono HO_15.out (fun _ hk => hk.1)⟩, ⟨by repeat (first | (with_reducible first | exact HI432.out | apply IsS25.alloc | apply IsS25.drewN | apply IsS25.drew | apply IsS25.set_0 | refine IsS25.farB ?_ NB432_440.out (by repeat (first | exact Typ5.of BK440.out (by decide) | apply Typ5.set | apply Typ5.alloc | apply Typ5.drewN | apply Typ5.drew)) _) | exact HI432.out)⟩, ⟨by repeat (first | (with_reducible first | exact HB.out | apply below_alloc | apply pw_below_drewN | apply below_drew1 | refine below_set ?_ (IsS25.ge HI432.out) | refine below_set ?_ GE440.out) | exact HB.out)⟩⟩
        ·replace c47 := Bool.eq_false_iff.mpr c47
         subst c47
         have H1 : (if ((rd_T28 t436 x17_1).f0) = 3 then (if ((rd_T28 t436 x17_1).f0) = 4 then (if x4_1.length < 4398046511104 then ((scribelaw01_put.f kj10 x433000_1 ((rd_T28 t436 x17_1).f0) ((rd_T28 t436 x17_1).f1) ((rd_T28 t436 x17_1).f2)).bind fun bt444 => (scribelaw01_PackBack.l0 kj10 (x4_1 ++ [(⟨((rd_T28 t436 x17_1).f0), ((rd_T28 t436 x17_1).f1), ((rd_T28 t436 x17_1).f2)⟩ : S28)]) (wrap64 ((wrap64 (x5_1 + 1)) - 1)) t436 (t436.length : Int) (wrap64 (x17_1 + 1)) bt444.2)) else (none)) else (if x4_1.length < 4398046511104 then ((scribelaw01_put.f kj10 x433000_1 ((rd_T28 t436 x17_1).f0) ((rd_T28 t436 x17_1).f1) ((rd_T28 t436 x17_1).f2)).bind fun bt449 => (scribelaw01_PackBack.l0 kj10 (x4_1 ++ [(⟨((rd_T28 t436 x17_1).f0), ((rd_T28 t436 x17_1).f1), ((rd_T28 t436 x17_1).f2)⟩ : S28)]) (wrap64 (x5_1 + 1)) t436 (t436.length : Int) (wrap64 (x17_1 + 1)) bt449.2)) else (none))) else (if ((rd_T28 t436 x17_1).f0) = 4 then (if x4_1.length < 4398046511104 then ((scribelaw01_put.f kj10 x433000_1 ((rd_T28 t436 x17_1).f0) ((rd_T28 t436 x17_1).f1) ((rd_T28 t436 x17_1).f2)).bind fun bt454 => (scribelaw01_PackBack.l0 kj10 (x4_1 ++ [(⟨((rd_T28 t436 x17_1).f0), ((rd_T28 t436 x17_1).f1), ((rd_T28 t436 x17_1).f2)⟩ : S28)]) (wrap64 (x5_1 - 1)) t436 (t436.length : Int) (wrap64 (x17_1 + 1)) bt454.2)) else (none)) else (if x4_1.length < 4398046511104 then ((scribelaw01_put.f kj10 x433000_1 ((rd_T28 t436 x17_1).f0) ((rd_T28 t436 x17_1).f1) ((rd_T28 t436 x17_1).f2)).bind fun bt459 => (scribelaw01_PackBack.l0 kj10 (x4_1 ++ [(⟨((rd_T28 t436 x17_1).f0), ((rd_T28 t436 x17_1).f1), ((rd_T28 t436 x17_1).f2)⟩ : S28)]) x5_1 t436 (t436.length : Int) (wrap64 (x17_1 + 1)) bt459.2)) else (none)))) = some r := by rw [if_neg (show ¬ (false = true) by decide)] at H; exact H
         clear H
         have H := H1
         clear H1
         by_cases c48 : ((rd_T28 t436 x17_1).f0) = 3
         ·rw [if_pos c48] at H
          have c48b0 : (((rd_T28 t436 x17_1).f0) == 3) = true := beq_iff_eq.mpr c48
          have c48b1 : (((rd_T28 t436 x17_1).f0) != 3) = false := bne_eq_false_iff_eq.mpr c48
          clear c48
          by_cases c49 : ((rd_T28 t436 x17_1).f0) = 4
          ·rw [if_pos c49] at H
           have c49b0 : (((rd_T28 t436 x17_1).f0) == 4) = true := beq_iff_eq.mpr c49
           have c49b1 : (((rd_T28 t436 x17_1).f0) != 4) = false := bne_eq_false_iff_eq.mpr c49
           clear c49
           by_cases c50 : x4_1.length < 4398046511104
           ·rw [if_pos c50] at H
            have LMc50 := Aside0.mk c50
            clear c50
            obtain ⟨y441, hy441⟩ : ∃ y_ : List (S28), y_ = (x4_1 ++ [(⟨((rd_T28 t436 x17_1).f0), ((rd_T28 t436 x17_1).f1), ((rd_T28 t436 x17_1).f2)⟩ : S28)]) := ⟨_, rfl⟩
            replace H : ((scribelaw01_put.f kj10 x433000_1 ((rd_T28 t436 x17_1).f0) ((rd_T28 t436 x17_1).f1) ((rd_T28 t436 x17_1).f2)).bind fun bt444 => (scribelaw01_PackBack.l0 kj10 y441 (wrap64 ((wrap64 (x5_1 + 1)) - 1)) t436 (t436.length : Int) (wrap64 (x17_1 + 1)) bt444.2)) = some r := by first | (rw [hy441]; with_reducible exact H) | (have H2_ := (Option.bind_some _ _).symm.trans H; rw [hy441]; with_reducible exact H2_) | (have H2_ := (Option.bind_some _ _).symm.trans H; with_reducible exact H2_) | with_reducible exact H | (rw [hy441]; exact H) | exact H
            have Ny441 := Aside0.mk hy441
            clear hy441
            replace H := Option.bind_eq_some_iff.mp H
            obtain ⟨⟨t444, t445⟩, A510, H⟩ := H
            replace H : (scribelaw01_PackBack.l0 kj10 y441 (wrap64 ((wrap64 (x5_1 + 1)) - 1)) t436 (t436.length : Int) (wrap64 (x17_1 + 1)) t445) = some r := H
            have A51 := Aside0.mk A510
            clear A510
            have H' := Aside0.mk H
            clear H
            have hnb52 := NB440_432.out
            have hnc52 := NB432_440.out
            have hcz53_0 : wc.cell? ⟨gb440, 0, none⟩ = some (.int .i64 ((rd_T28 t436 x17_1).f0)) := (blk_cell BK440.out 0).trans rfl
            have hcz53_1 : wc.cell? ⟨gb440, 1, none⟩ = some (.int .i64 ((rd_T28 t436 x17_1).f1)) := (blk_cell BK440.out 1).trans rfl
            have hcz53_2 : wc.cell? ⟨gb440, 2, none⟩ = some (.string ((rd_T28 t436 x17_1).f2)) := (blk_cell BK440.out 2).trans rfl
            have hfz53_0 := blk_frozen BK440.out 0
            have hfz53_1 := blk_frozen BK440.out 1
            have hfz53_2 := blk_frozen BK440.out 2
            go_wp2_with (first | ((with_reducible refine gate_builtin (b := .append) (xs := #[.tmp 57, .tmp 59]) rfl ?_); at_builtin; refine Kd.R_append k28 (w0 := w) w.heap.size rfl (.tmp 57) (.tmp 59) 22 28 (.agg #[(.int .i64 0), (.int .i64 0), (.string ⟨#[]⟩)]) 32 rfl Tryd.underlying22 info28 rfl (by decide) (by omega) u4 x4_1 (⟨((rd_T28 t436 x17_1).f0), ((rd_T28 t436 x17_1).f1), ((rd_T28 t436 x17_1).f2)⟩ : S28) [.int .i64 ((rd_T28 t436 x17_1).f0), .int .i64 ((rd_T28 t436 x17_1).f1), .string ((rd_T28 t436 x17_1).f2)] (fun k_ => some k_ ≠ (.slice (some ad439) t436.length co7 : Value).ownBlock ∧ k_ ≠ gb440) (fun _ => False) rfl rfl ?aP (fun _ hk => hk.elim) ?aF ?aO ?aB ?aS ?aL ?_; (case aP => exact k28_mkM _ _ _ (⟨((rd_T28 t436 x17_1).f0), ((rd_T28 t436 x17_1).f1), ((rd_T28 t436 x17_1).f2)⟩ : S28)); (case aB => exact (by repeat (first | (with_reducible first | exact HB.out | apply below_alloc | apply pw_below_drewN | apply below_drew1 | refine below_set ?_ (IsS25.ge HI432.out) | refine below_set ?_ GE440.out) | exact HB.out))); (case aF => exact (fun k_ hk => ⟨Kd.fresh' (Kd.R_lt (by (with_reducible repeat (first | apply Kd.R_alloc | apply Kd.R_drewN | apply Kd.R_drew)); exact HO_15.out)) k_ hk, Kd.freshB (g := gb440) (o := .cells #[.int .i64 ((rd_T28 t436 x17_1).f0), .int .i64 ((rd_T28 t436 x17_1).f1), .string ((rd_T28 t436 x17_1).f2)] 28 (0, 0)) (by (with_reducible repeat (first | refine blk_drewN ?_ _ | refine blk_drew ?_ | refine blk_alloc ?_ _)); exact BK440.out) k_ hk⟩)); (case aO => exact (by (with_reducible repeat (first | apply Kd.R_alloc | apply Kd.R_drewN | apply Kd.R_drew)); exact HO_4.out)); (case aS => exact (below_size (by repeat (first | (with_reducible first | exact HB.out | apply below_alloc | apply pw_below_drewN | apply below_drew1 | refine below_set ?_ (IsS25.ge HI432.out) | refine below_set ?_ GE440.out) | exact HB.out)))); (case aL => have := LMc50.out; omega); intro v442 w54 ho hb hg hat; rw [← Ny441.out] at ho; have n0_ := Aside0.mk (Kd.R_after (ok := (fun k_ => k_ ≠ gb440)) (by (with_reducible repeat (first | apply Kd.R_alloc | apply Kd.R_drewN | apply Kd.R_drew)); exact Kd.R_mono HO_15.out (fun _ hk => ⟨hk.2, hk.1⟩)) hg hat); have n1_ := Aside0.mk (blk_grown (g := gb440) (o := .cells #[.int .i64 ((rd_T28 t436 x17_1).f0), .int .i64 ((rd_T28 t436 x17_1).f1), .string ((rd_T28 t436 x17_1).f2)] 28 (0, 0)) (by (with_reducible repeat (first | refine blk_drewN ?_ _ | refine blk_drew ?_ | refine blk_alloc ?_ _)); exact BK440.out) hg (Kd.R_away HO_4.out (fun _ hk => hk.2))); have n2_ := Aside0.mk (IsS25.grown (by repeat (first | (with_reducible first | exact HI432.out | apply IsS25.alloc | apply IsS25.drewN | apply IsS25.drew | apply IsS25.set_0 | refine IsS25.farB ?_ NB432_440.out (by repeat (first | exact Typ5.of BK440.out (by decide) | apply Typ5.set | apply Typ5.alloc | apply Typ5.drewN | apply Typ5.drew)) _) | exact HI432.out)) hg (IsS25.own2_ne HI432.out HO_4.out (by decide))); have n3_ := Aside0.mk (hb); have n4_ := Aside0.mk (ho); clear HO_15; clear BK440; clear HI432; clear HB; clear HO_4; have HO_15 := n0_; have BK440 := n1_; have HI432 := n2_; have HB := n3_; have HO443 := n4_; clear n0_ n1_ n2_ n3_ n4_; clear ho hb hg hat; have hcz55_0 : w54.cell? ⟨gb440, 0, none⟩ = some (.int .i64 ((rd_T28 t436 x17_1).f0)) := (blk_cell BK440.out 0).trans rfl; have hcz55_1 : w54.cell? ⟨gb440, 1, none⟩ = some (.int .i64 ((rd_T28 t436 x17_1).f1)) := (blk_cell BK440.out 1).trans rfl; have hcz55_2 : w54.cell? ⟨gb440, 2, none⟩ = some (.string ((rd_T28 t436 x17_1).f2)) := (blk_cell BK440.out 2).trans rfl; have hfz55_0 := blk_frozen BK440.out 0; have hfz55_1 := blk_frozen BK440.out 1; have hfz55_2 := blk_frozen BK440.out 2) | ((with_reducible refine gate_callee (f := 12) rfl ?_); refine goesL_ (some 62) rfl rfl Tryd.func12 (by kernel_rfl) rfl #[.pointer (some ⟨gb432, 0, none⟩), .agg #[.int .i64 ((rd_T28 t436 x17_1).f0), .int .i64 ((rd_T28 t436 x17_1).f1), .string ((rd_T28 t436 x17_1).f2)]] rfl (by (try simp only [List.map_toArray, List.map_cons, List.map_nil]); first | done | rfl | (simp only [List.length_drop, List.length_take]; rfl)) ?_; (with_reducible refine (scribelaw01_put.calls kj10 gb432 x433000_1 ((rd_T28 t436 x17_1).f0) ((rd_T28 t436 x17_1).f1) ((rd_T28 t436 x17_1).f2) t444 t445 w _ ?side1 ?side2 ?side3 A51.out).mono ?_); (case side1 => repeat (first | (with_reducible first | exact HI432.out | apply IsS25.alloc | apply IsS25.drewN | apply IsS25.drew | apply IsS25.set_0 | refine IsS25.farB ?_ NB432_440.out (by repeat (first | exact Typ5.of BK440.out (by decide) | apply Typ5.set | apply Typ5.alloc | apply Typ5.drewN | apply Typ5.drew)) _) | exact HI432.out)); (case side2 => repeat (first | (with_reducible first | exact HB.out | apply below_alloc | apply pw_below_drewN | apply below_drew1 | refine below_set ?_ (IsS25.ge HI432.out) | refine below_set ?_ GE440.out) | exact HB.out)); (case side3 => exact hT); rintro e w56 ⟨rfl, hi, hb, hk⟩; refine ⟨_, rfl, ?_⟩; have n0_ := Aside0.mk (Kd.R_mono (Kd.R_keep (IsS25.apart (show IsS25 w _ gb432 x433000_1 from by repeat (first | (with_reducible first | exact HI432.out | apply IsS25.alloc | apply IsS25.drewN | apply IsS25.drew | apply IsS25.set_0 | refine IsS25.farB ?_ NB432_440.out (by repeat (first | exact Typ5.of BK440.out (by decide) | apply Typ5.set | apply Typ5.alloc | apply Typ5.drewN | apply Typ5.drew)) _) | exact HI432.out)) (by (with_reducible repeat (first | apply Kd.R_alloc | apply Kd.R_drewN | apply Kd.R_drew)); exact HO_15.out) (by decide)) hk (fun _ h => h.2)) (fun _ h => h.1)); have n1_ := Aside0.mk (KeepBut.blk hk (g' := gb440) (o := .cells #[.int .i64 ((rd_T28 t436 x17_1).f0), .int .i64 ((rd_T28 t436 x17_1).f1), .string ((rd_T28 t436 x17_1).f2)] 28 (0, 0)) (by (with_reducible repeat (first | refine blk_drewN ?_ _ | refine blk_drew ?_ | refine blk_alloc ?_ _)); exact BK440.out) NB440_432.out (by simp)); have n2_ := Aside0.mk (Kd.R_mono (Kd.R_keep (IsS25.apart (show IsS25 w _ gb432 x433000_1 from by repeat (first | (with_reducible first | exact HI432.out | apply IsS25.alloc | apply IsS25.drewN | apply IsS25.drew | apply IsS25.set_0 | refine IsS25.farB ?_ NB432_440.out (by repeat (first | exact Typ5.of BK440.out (by decide) | apply Typ5.set | apply Typ5.alloc | apply Typ5.drewN | apply Typ5.drew)) _) | exact HI432.out)) (by (with_reducible repeat (first | apply Kd.R_alloc | apply Kd.R_drewN | apply Kd.R_drew)); exact HO443.out) (by decide)) hk (fun _ h => h.2)) (fun _ h => h.1)); have n3_ := Aside0.mk (hb); have n4_ := Aside0.mk (hi); clear HO_15; clear BK440; clear HO443; clear HB; clear HI432; have HO_15 := n0_; have BK440 := n1_; have HO443 := n2_; have HB := n3_; have HI432 := n4_; clear n0_ n1_ n2_ n3_ n4_; (try clear hb); (try clear hb2); (try clear hk); (try clear hi)))
            go_roundg kj10
            case measure => have := HK1.out; have := HJ10.out; omega
            case rel => exact ⟨(y441), (wrap64 ((wrap64 (x5_1 + 1)) - 1)), (wrap64 (x17_1 + 1)), (t445), (by first | rfl | (simp; done) | (simp [*]; done) | (simp; unfold wrap64; omega)), (by first | rfl | (simp; done) | (simp [*]; done) | (simp; unfold wrap64; omega)), H', ⟨by have := HK1.out; have := HJ10.out; omega⟩, ⟨by (with_reducible repeat (first | apply Kd.R_alloc | apply Kd.R_drewN | apply Kd.R_drew)); exact Kd.R_mono HO443.out (fun _ hk => hk.1)⟩, ⟨by (with_reducible repeat (first | apply Kd.R_alloc | apply Kd.R_drewN | apply Kd.R_drew)); exact Kd.R_mono HO_15.out (fun _ hk => hk.2)⟩, ⟨by repeat (first | (with_reducible first | exact HI432.out | apply IsS25.alloc | apply IsS25.drewN | apply IsS25.drew | apply IsS25.set_0 | refine IsS25.farB ?_ NB432_440.out (by repeat (first | exact Typ5.of BK440.out (by decide) | apply Typ5.set | apply Typ5.alloc | apply Typ5.drewN | apply Typ5.drew)) _) | exact HI432.out)⟩, ⟨by repeat (first | (with_reducible first | exact HB.out | apply below_alloc | apply pw_below_drewN | apply below_drew1 | refine below_set ?_ (IsS25.ge HI432.out) | refine below_set ?_ GE440.out) | exact HB.out)⟩⟩
           ·rw [if_neg c50] at H
            exact absurd H (by simp)
          ·rw [if_neg c49] at H
           have c49b0 : (((rd_T28 t436 x17_1).f0) == 4) = false := beq_eq_false_iff_ne.mpr c49
           have c49b1 : (((rd_T28 t436 x17_1).f0) != 4) = true := bne_iff_ne.mpr c49
           by_cases c57 : x4_1.length < 4398046511104
           ·rw [if_pos c57] at H
            have LMc57 := Aside0.mk c57
            clear c57
            obtain ⟨y446, hy446⟩ : ∃ y_ : List (S28), y_ = (x4_1 ++ [(⟨((rd_T28 t436 x17_1).f0), ((rd_T28 t436 x17_1).f1), ((rd_T28 t436 x17_1).f2)⟩ : S28)]) := ⟨_, rfl⟩
            replace H : ((scribelaw01_put.f kj10 x433000_1 ((rd_T28 t436 x17_1).f0) ((rd_T28 t436 x17_1).f1) ((rd_T28 t436 x17_1).f2)).bind fun bt449 => (scribelaw01_PackBack.l0 kj10 y446 (wrap64 (x5_1 + 1)) t436 (t436.length : Int) (wrap64 (x17_1 + 1)) bt449.2)) = some r := by first | (rw [hy446]; with_reducible exact H) | (have H2_ := (Option.bind_some _ _).symm.trans H; rw [hy446]; with_reducible exact H2_) | (have H2_ := (Option.bind_some _ _).symm.trans H; with_reducible exact H2_) | with_reducible exact H | (rw [hy446]; exact H) | exact H
            have Ny446 := Aside0.mk hy446
            clear hy446
            replace H := Option.bind_eq_some_iff.mp H
            obtain ⟨⟨t449, t450⟩, A580, H⟩ := H
            replace H : (scribelaw01_PackBack.l0 kj10 y446 (wrap64 (x5_1 + 1)) t436 (t436.length : Int) (wrap64 (x17_1 + 1)) t450) = some r := H
            have A58 := Aside0.mk A580
            clear A580
            have H' := Aside0.mk H
            clear H
            have hnb59 := NB440_432.out
            have hnc59 := NB432_440.out
            have hcz60_0 : wc.cell? ⟨gb440, 0, none⟩ = some (.int .i64 ((rd_T28 t436 x17_1).f0)) := (blk_cell BK440.out 0).trans rfl
            have hcz60_1 : wc.cell? ⟨gb440, 1, none⟩ = some (.int .i64 ((rd_T28 t436 x17_1).f1)) := (blk_cell BK440.out 1).trans rfl
            have hcz60_2 : wc.cell? ⟨gb440, 2, none⟩ = some (.string ((rd_T28 t436 x17_1).f2)) := (blk_cell BK440.out 2).trans rfl
            have hfz60_0 := blk_frozen BK440.out 0
            have hfz60_1 := blk_frozen BK440.out 1
            have hfz60_2 := blk_frozen BK440.out 2
            go_wp2_with (first | ((with_reducible refine gate_builtin (b := .append) (xs := #[.tmp 57, .tmp 59]) rfl ?_); at_builtin; refine Kd.R_append k28 (w0 := w) w.heap.size rfl (.tmp 57) (.tmp 59) 22 28 (.agg #[(.int .i64 0), (.int .i64 0), (.string ⟨#[]⟩)]) 32 rfl Tryd.underlying22 info28 rfl (by decide) (by omega) u4 x4_1 (⟨((rd_T28 t436 x17_1).f0), ((rd_T28 t436 x17_1).f1), ((rd_T28 t436 x17_1).f2)⟩ : S28) [.int .i64 ((rd_T28 t436 x17_1).f0), .int .i64 ((rd_T28 t436 x17_1).f1), .string ((rd_T28 t436 x17_1).f2)] (fun k_ => some k_ ≠ (.slice (some ad439) t436.length co7 : Value).ownBlock ∧ k_ ≠ gb440) (fun _ => False) rfl rfl ?aP (fun _ hk => hk.elim) ?aF ?aO ?aB ?aS ?aL ?_; (case aP => exact k28_mkM _ _ _ (⟨((rd_T28 t436 x17_1).f0), ((rd_T28 t436 x17_1).f1), ((rd_T28 t436 x17_1).f2)⟩ : S28)); (case aB => exact (by repeat (first | (with_reducible first | exact HB.out | apply below_alloc | apply pw_below_drewN | apply below_drew1 | refine below_set ?_ (IsS25.ge HI432.out) | refine below_set ?_ GE440.out) | exact HB.out))); (case aF => exact (fun k_ hk => ⟨Kd.fresh' (Kd.R_lt (by (with_reducible repeat (first | apply Kd.R_alloc | apply Kd.R_drewN | apply Kd.R_drew)); exact HO_15.out)) k_ hk, Kd.freshB (g := gb440) (o := .cells #[.int .i64 ((rd_T28 t436 x17_1).f0), .int .i64 ((rd_T28 t436 x17_1).f1), .string ((rd_T28 t436 x17_1).f2)] 28 (0, 0)) (by (with_reducible repeat (first | refine blk_drewN ?_ _ | refine blk_drew ?_ | refine blk_alloc ?_ _)); exact BK440.out) k_ hk⟩)); (case aO => exact (by (with_reducible repeat (first | apply Kd.R_alloc | apply Kd.R_drewN | apply Kd.R_drew)); exact HO_4.out)); (case aS => exact (below_size (by repeat (first | (with_reducible first | exact HB.out | apply below_alloc | apply pw_below_drewN | apply below_drew1 | refine below_set ?_ (IsS25.ge HI432.out) | refine below_set ?_ GE440.out) | exact HB.out)))); (case aL => have := LMc57.out; omega); intro v447 w61 ho hb hg hat; rw [← Ny446.out] at ho; have n0_ := Aside0.mk (Kd.R_after (ok := (fun k_ => k_ ≠ gb440)) (by (with_reducible repeat (first | apply Kd.R_alloc | apply Kd.R_drewN | apply Kd.R_drew)); exact Kd.R_mono HO_15.out (fun _ hk => ⟨hk.2, hk.1⟩)) hg hat); have n1_ := Aside0.mk (blk_grown (g := gb440) (o := .cells #[.int .i64 ((rd_T28 t436 x17_1).f0), .int .i64 ((rd_T28 t436 x17_1).f1), .string ((rd_T28 t436 x17_1).f2)] 28 (0, 0)) (by (with_reducible repeat (first | refine blk_drewN ?_ _ | refine blk_drew ?_ | refine blk_alloc ?_ _)); exact BK440.out) hg (Kd.R_away HO_4.out (fun _ hk => hk.2))); have n2_ := Aside0.mk (IsS25.grown (by repeat (first | (with_reducible first | exact HI432.out | apply IsS25.alloc | apply IsS25.drewN | apply IsS25.drew | apply IsS25.set_0 | refine IsS25.farB ?_ NB432_440.out (by repeat (first | exact Typ5.of BK440.out (by decide) | apply Typ5.set | apply Typ5.alloc | apply Typ5.drewN | apply Typ5.drew)) _) | exact HI432.out)) hg (IsS25.own2_ne HI432.out HO_4.out (by decide))); have n3_ := Aside0.mk (hb); have n4_ := Aside0.mk (ho); clear HO_15; clear BK440; clear HI432; clear HB; clear HO_4; have HO_15 := n0_; have BK440 := n1_; have HI432 := n2_; have HB := n3_; have HO448 := n4_; clear n0_ n1_ n2_ n3_ n4_; clear ho hb hg hat; have hcz62_0 : w61.cell? ⟨gb440, 0, none⟩ = some (.int .i64 ((rd_T28 t436 x17_1).f0)) := (blk_cell BK440.out 0).trans rfl; have hcz62_1 : w61.cell? ⟨gb440, 1, none⟩ = some (.int .i64 ((rd_T28 t436 x17_1).f1)) := (blk_cell BK440.out 1).trans rfl; have hcz62_2 : w61.cell? ⟨gb440, 2, none⟩ = some (.string ((rd_T28 t436 x17_1).f2)) := (blk_cell BK440.out 2).trans rfl; have hfz62_0 := blk_frozen BK440.out 0; have hfz62_1 := blk_frozen BK440.out 1; have hfz62_2 := blk_frozen BK440.out 2) | ((with_reducible refine gate_callee (f := 12) rfl ?_); refine goesL_ (some 62) rfl rfl Tryd.func12 (by kernel_rfl) rfl #[.pointer (some ⟨gb432, 0, none⟩), .agg #[.int .i64 ((rd_T28 t436 x17_1).f0), .int .i64 ((rd_T28 t436 x17_1).f1), .string ((rd_T28 t436 x17_1).f2)]] rfl (by (try simp only [List.map_toArray, List.map_cons, List.map_nil]); first | done | rfl | (simp only [List.length_drop, List.length_take]; rfl)) ?_; (with_reducible refine (scribelaw01_put.calls kj10 gb432 x433000_1 ((rd_T28 t436 x17_1).f0) ((rd_T28 t436 x17_1).f1) ((rd_T28 t436 x17_1).f2) t449 t450 w _ ?side1 ?side2 ?side3 A58.out).mono ?_); (case side1 => repeat (first | (with_reducible first | exact HI432.out | apply IsS25.alloc | apply IsS25.drewN | apply IsS25.drew | apply IsS25.set_0 | refine IsS25.farB ?_ NB432_440.out (by repeat (first | exact Typ5.of BK440.out (by decide) | apply Typ5.set | apply Typ5.alloc | apply Typ5.drewN | apply Typ5.drew)) _) | exact HI432.out)); (case side2 => repeat (first | (with_reducible first | exact HB.out | apply below_alloc | apply pw_below_drewN | apply below_drew1 | refine below_set ?_ (IsS25.ge HI432.out) | refine below_set ?_ GE440.out) | exact HB.out)); (case side3 => exact hT); rintro e w63 ⟨rfl, hi, hb, hk⟩; refine ⟨_, rfl, ?_⟩; have n0_ := Aside0.mk (Kd.R_mono (Kd.R_keep (IsS25.apart (show IsS25 w _ gb432 x433000_1 from by repeat (first | (with_reducible first | exact HI432.out | apply IsS25.alloc | apply IsS25.drewN | apply IsS25.drew | apply IsS25.set_0 | refine IsS25.farB ?_ NB432_440.out (by repeat (first | exact Typ5.of BK440.out (by decide) | apply Typ5.set | apply Typ5.alloc | apply Typ5.drewN | apply Typ5.drew)) _) | exact HI432.out)) (by (with_reducible repeat (first | apply Kd.R_alloc | apply Kd.R_drewN | apply Kd.R_drew)); exact HO_15.out) (by decide)) hk (fun _ h => h.2)) (fun _ h => h.1)); have n1_ := Aside0.mk (KeepBut.blk hk (g' := gb440) (o := .cells #[.int .i64 ((rd_T28 t436 x17_1).f0), .int .i64 ((rd_T28 t436 x17_1).f1), .string ((rd_T28 t436 x17_1).f2)] 28 (0, 0)) (by (with_reducible repeat (first | refine blk_drewN ?_ _ | refine blk_drew ?_ | refine blk_alloc ?_ _)); exact BK440.out) NB440_432.out (by simp)); have n2_ := Aside0.mk (Kd.R_mono (Kd.R_keep (IsS25.apart (show IsS25 w _ gb432 x433000_1 from by repeat (first | (with_reducible first | exact HI432.out | apply IsS25.alloc | apply IsS25.drewN | apply IsS25.drew | apply IsS25.set_0 | refine IsS25.farB ?_ NB432_440.out (by repeat (first | exact Typ5.of BK440.out (by decide) | apply Typ5.set | apply Typ5.alloc | apply Typ5.drewN | apply Typ5.drew)) _) | exact HI432.out)) (by (with_reducible repeat (first | apply Kd.R_alloc | apply Kd.R_drewN | apply Kd.R_drew)); exact HO448.out) (by decide)) hk (fun _ h => h.2)) (fun _ h => h.1)); have n3_ := Aside0.mk (hb); have n4_ := Aside0.mk (hi); clear HO_15; clear BK440; clear HO448; clear HB; clear HI432; have HO_15 := n0_; have BK440 := n1_; have HO448 := n2_; have HB := n3_; have HI432 := n4_; clear n0_ n1_ n2_ n3_ n4_; (try clear hb); (try clear hb2); (try clear hk); (try clear hi)))
            go_roundg kj10
            case measure => have := HK1.out; have := HJ10.out; omega
            case rel => exact ⟨(y446), (wrap64 (x5_1 + 1)), (wrap64 (x17_1 + 1)), (t450), (by first | rfl | (simp; done) | (simp [*]; done) | (simp; unfold wrap64; omega)), (by first | rfl | (simp; done) | (simp [*]; done) | (simp; unfold wrap64; omega)), H', ⟨by have := HK1.out; have := HJ10.out; omega⟩, ⟨by (with_reducible repeat (first | apply Kd.R_alloc | apply Kd.R_drewN | apply Kd.R_drew)); exact Kd.R_mono HO448.out (fun _ hk => hk.1)⟩, ⟨by (with_reducible repeat (first | apply Kd.R_alloc | apply Kd.R_drewN | apply Kd.R_drew)); exact Kd.R_mono HO_15.out (fun _ hk => hk.2)⟩, ⟨by repeat (first | (with_reducible first | exact HI432.out | apply IsS25.alloc | apply IsS25.drewN | apply IsS25.drew | apply IsS25.set_0 | refine IsS25.farB ?_ NB432_440.out (by repeat (first | exact Typ5.of BK440.out (by decide) | apply Typ5.set | apply Typ5.alloc | apply Typ5.drewN | apply Typ5.drew)) _) | exact HI432.out)⟩, ⟨by repeat (first | (with_reducible first | exact HB.out | apply below_alloc | apply pw_below_drewN | apply below_drew1 | refine below_set ?_ (IsS25.ge HI432.out) | refine below_set ?_ GE440.out) | exact HB.out)⟩⟩
           ·rw [if_neg c57] at H
            exact absurd H (by simp)
         ·rw [if_neg c48] at H
          have c48b0 : (((rd_T28 t436 x17_1).f0) == 3) = false := beq_eq_false_iff_ne.mpr c48
          have c48b1 : (((rd_T28 t436 x17_1).f0) != 3) = true := bne_iff_ne.mpr c48
          by_cases c64 : ((rd_T28 t436 x17_1).f0) = 4
          ·rw [if_pos c64] at H
           have c64b0 : (((rd_T28 t436 x17_1).f0) == 4) = true := beq_iff_eq.mpr c64
           have c64b1 : (((rd_T28 t436 x17_1).f0) != 4) = false := bne_eq_false_iff_eq.mpr c64
           clear c64
           by_cases c65 : x4_1.length < 4398046511104
           ·rw [if_pos c65] at H
            have LMc65 := Aside0.mk c65
            clear c65
            obtain ⟨y451, hy451⟩ : ∃ y_ : List (S28), y_ = (x4_1 ++ [(⟨((rd_T28 t436 x17_1).f0), ((rd_T28 t436 x17_1).f1), ((rd_T28 t436 x17_1).f2)⟩ : S28)]) := ⟨_, rfl⟩
            replace H : ((scribelaw01_put.f kj10 x433000_1 ((rd_T28 t436 x17_1).f0) ((rd_T28 t436 x17_1).f1) ((rd_T28 t436 x17_1).f2)).bind fun bt454 => (scribelaw01_PackBack.l0 kj10 y451 (wrap64 (x5_1 - 1)) t436 (t436.length : Int) (wrap64 (x17_1 + 1)) bt454.2)) = some r := by first | (rw [hy451]; with_reducible exact H) | (have H2_ := (Option.bind_some _ _).symm.trans H; rw [hy451]; with_reducible exact H2_) | (have H2_ := (Option.bind_some _ _).symm.trans H; with_reducible exact H2_) | with_reducible exact H | (rw [hy451]; exact H) | exact H
            have Ny451 := Aside0.mk hy451
            clear hy451
            replace H := Option.bind_eq_some_iff.mp H
            obtain ⟨⟨t454, t455⟩, A660, H⟩ := H
            replace H : (scribelaw01_PackBack.l0 kj10 y451 (wrap64 (x5_1 - 1)) t436 (t436.length : Int) (wrap64 (x17_1 + 1)) t455) = some r := H
            have A66 := Aside0.mk A660
            clear A660
            have H' := Aside0.mk H
            clear H
            have hnb67 := NB440_432.out
            have hnc67 := NB432_440.out
            have hcz68_0 : wc.cell? ⟨gb440, 0, none⟩ = some (.int .i64 ((rd_T28 t436 x17_1).f0)) := (blk_cell BK440.out 0).trans rfl
            have hcz68_1 : wc.cell? ⟨gb440, 1, none⟩ = some (.int .i64 ((rd_T28 t436 x17_1).f1)) := (blk_cell BK440.out 1).trans rfl
            have hcz68_2 : wc.cell? ⟨gb440, 2, none⟩ = some (.string ((rd_T28 t436 x17_1).f2)) := (blk_cell BK440.out 2).trans rfl
            have hfz68_0 := blk_frozen BK440.out 0
            have hfz68_1 := blk_frozen BK440.out 1
            have hfz68_2 := blk_frozen BK440.out 2
            go_wp2_with (first | ((with_reducible refine gate_builtin (b := .append) (xs := #[.tmp 57, .tmp 59]) rfl ?_); at_builtin; refine Kd.R_append k28 (w0 := w) w.heap.size rfl (.tmp 57) (.tmp 59) 22 28 (.agg #[(.int .i64 0), (.int .i64 0), (.string ⟨#[]⟩)]) 32 rfl Tryd.underlying22 info28 rfl (by decide) (by omega) u4 x4_1 (⟨((rd_T28 t436 x17_1).f0), ((rd_T28 t436 x17_1).f1), ((rd_T28 t436 x17_1).f2)⟩ : S28) [.int .i64 ((rd_T28 t436 x17_1).f0), .int .i64 ((rd_T28 t436 x17_1).f1), .string ((rd_T28 t436 x17_1).f2)] (fun k_ => some k_ ≠ (.slice (some ad439) t436.length co7 : Value).ownBlock ∧ k_ ≠ gb440) (fun _ => False) rfl rfl ?aP (fun _ hk => hk.elim) ?aF ?aO ?aB ?aS ?aL ?_; (case aP => exact k28_mkM _ _ _ (⟨((rd_T28 t436 x17_1).f0), ((rd_T28 t436 x17_1).f1), ((rd_T28 t436 x17_1).f2)⟩ : S28)); (case aB => exact (by repeat (first | (with_reducible first | exact HB.out | apply below_alloc | apply pw_below_drewN | apply below_drew1 | refine below_set ?_ (IsS25.ge HI432.out) | refine below_set ?_ GE440.out) | exact HB.out))); (case aF => exact (fun k_ hk => ⟨Kd.fresh' (Kd.R_lt (by (with_reducible repeat (first | apply Kd.R_alloc | apply Kd.R_drewN | apply Kd.R_drew)); exact HO_15.out)) k_ hk, Kd.freshB (g := gb440) (o := .cells #[.int .i64 ((rd_T28 t436 x17_1).f0), .int .i64 ((rd_T28 t436 x17_1).f1), .string ((rd_T28 t436 x17_1).f2)] 28 (0, 0)) (by (with_reducible repeat (first | refine blk_drewN ?_ _ | refine blk_drew ?_ | refine blk_alloc ?_ _)); exact BK440.out) k_ hk⟩)); (case aO => exact (by (with_reducible repeat (first | apply Kd.R_alloc | apply Kd.R_drewN | apply Kd.R_drew)); exact HO_4.out)); (case aS => exact (below_size (by repeat (first | (with_reducible first | exact HB.out | apply below_alloc | apply pw_below_drewN | apply below_drew1 | refine below_set ?_ (IsS25.ge HI432.out) | refine below_set ?_ GE440.out) | exact HB.out)))); (case aL => have := LMc65.out; omega); intro v452 w69 ho hb hg hat; rw [← Ny451.out] at ho; have n0_ := Aside0.mk (Kd.R_after (ok := (fun k_ => k_ ≠ gb440)) (by (with_reducible repeat (first | apply Kd.R_alloc | apply Kd.R_drewN | apply Kd.R_drew)); exact Kd.R_mono HO_15.out (fun _ hk => ⟨hk.2, hk.1⟩)) hg hat); have n1_ := Aside0.mk (blk_grown (g := gb440) (o := .cells #[.int .i64 ((rd_T28 t436 x17_1).f0), .int .i64 ((rd_T28 t436 x17_1).f1), .string ((rd_T28 t436 x17_1).f2)] 28 (0, 0)) (by (with_reducible repeat (first | refine blk_drewN ?_ _ | refine blk_drew ?_ | refine blk_alloc ?_ _)); exact BK440.out) hg (Kd.R_away HO_4.out (fun _ hk => hk.2))); have n2_ := Aside0.mk (IsS25.grown (by repeat (first | (with_reducible first | exact HI432.out | apply IsS25.alloc | apply IsS25.drewN | apply IsS25.drew | apply IsS25.set_0 | refine IsS25.farB ?_ NB432_440.out (by repeat (first | exact Typ5.of BK440.out (by decide) | apply Typ5.set | apply Typ5.alloc | apply Typ5.drewN | apply Typ5.drew)) _) | exact HI432.out)) hg (IsS25.own2_ne HI432.out HO_4.out (by decide))); have n3_ := Aside0.mk (hb); have n4_ := Aside0.mk (ho); clear HO_15; clear BK440; clear HI432; clear HB; clear HO_4; have HO_15 := n0_; have BK440 := n1_; have HI432 := n2_; have HB := n3_; have HO453 := n4_; clear n0_ n1_ n2_ n3_ n4_; clear ho hb hg hat; have hcz70_0 : w69.cell? ⟨gb440, 0, none⟩ = some (.int .i64 ((rd_T28 t436 x17_1).f0)) := (blk_cell BK440.out 0).trans rfl; have hcz70_1 : w69.cell? ⟨gb440, 1, none⟩ = some (.int .i64 ((rd_T28 t436 x17_1).f1)) := (blk_cell BK440.out 1).trans rfl; have hcz70_2 : w69.cell? ⟨gb440, 2, none⟩ = some (.string ((rd_T28 t436 x17_1).f2)) := (blk_cell BK440.out 2).trans rfl; have hfz70_0 := blk_frozen BK440.out 0; have hfz70_1 := blk_frozen BK440.out 1; have hfz70_2 := blk_frozen BK440.out 2) | ((with_reducible refine gate_callee (f := 12) rfl ?_); refine goesL_ (some 62) rfl rfl Tryd.func12 (by kernel_rfl) rfl #[.pointer (some ⟨gb432, 0, none⟩), .agg #[.int .i64 ((rd_T28 t436 x17_1).f0), .int .i64 ((rd_T28 t436 x17_1).f1), .string ((rd_T28 t436 x17_1).f2)]] rfl (by (try simp only [List.map_toArray, List.map_cons, List.map_nil]); first | done | rfl | (simp only [List.length_drop, List.length_take]; rfl)) ?_; (with_reducible refine (scribelaw01_put.calls kj10 gb432 x433000_1 ((rd_T28 t436 x17_1).f0) ((rd_T28 t436 x17_1).f1) ((rd_T28 t436 x17_1).f2) t454 t455 w _ ?side1 ?side2 ?side3 A66.out).mono ?_); (case side1 => repeat (first | (with_reducible first | exact HI432.out | apply IsS25.alloc | apply IsS25.drewN | apply IsS25.drew | apply IsS25.set_0 | refine IsS25.farB ?_ NB432_440.out (by repeat (first | exact Typ5.of BK440.out (by decide) | apply Typ5.set | apply Typ5.alloc | apply Typ5.drewN | apply Typ5.drew)) _) | exact HI432.out)); (case side2 => repeat (first | (with_reducible first | exact HB.out | apply below_alloc | apply pw_below_drewN | apply below_drew1 | refine below_set ?_ (IsS25.ge HI432.out) | refine below_set ?_ GE440.out) | exact HB.out)); (case side3 => exact hT); rintro e w71 ⟨rfl, hi, hb, hk⟩; refine ⟨_, rfl, ?_⟩; have n0_ := Aside0.mk (Kd.R_mono (Kd.R_keep (IsS25.apart (show IsS25 w _ gb432 x433000_1 from by repeat (first | (with_reducible first | exact HI432.out | apply IsS25.alloc | apply IsS25.drewN | apply IsS25.drew | apply IsS25.set_0 | refine IsS25.farB ?_ NB432_440.out (by repeat (first | exact Typ5.of BK440.out (by decide) | apply Typ5.set | apply Typ5.alloc | apply Typ5.drewN | apply Typ5.drew)) _) | exact HI432.out)) (by (with_reducible repeat (first | apply Kd.R_alloc | apply Kd.R_drewN | apply Kd.R_drew)); exact HO_15.out) (by decide)) hk (fun _ h => h.2)) (fun _ h => h.1)); have n1_ := Aside0.mk (KeepBut.blk hk (g' := gb440) (o := .cells #[.int .i64 ((rd_T28 t436 x17_1).f0), .int .i64 ((rd_T28 t436 x17_1).f1), .string ((rd_T28 t436 x17_1).f2)] 28 (0, 0)) (by (with_reducible repeat (first | refine blk_drewN ?_ _ | refine blk_drew ?_ | refine blk_alloc ?_ _)); exact BK440.out) NB440_432.out (by simp)); have n2_ := Aside0.mk (Kd.R_mono (Kd.R_keep (IsS25.apart (show IsS25 w _ gb432 x433000_1 from by repeat (first | (with_reducible first | exact HI432.out | apply IsS25.alloc | apply IsS25.drewN | apply IsS25.drew | apply IsS25.set_0 | refine IsS25.farB ?_ NB432_440.out (by repeat (first | exact Typ5.of BK440.out (by decide) | apply Typ5.set | apply Typ5.alloc | apply Typ5.drewN | apply Typ5.drew)) _) | exact HI432.out)) (by (with_reducible repeat (first | apply Kd.R_alloc | apply Kd.R_drewN | apply Kd.R_drew)); exact HO453.out) (by decide)) hk (fun _ h => h.2)) (fun _ h => h.1)); have n3_ := Aside0.mk (hb); have n4_ := Aside0.mk (hi); clear HO_15; clear BK440; clear HO453; clear HB; clear HI432; have HO_15 := n0_; have BK440 := n1_; have HO453 := n2_; have HB := n3_; have HI432 := n4_; clear n0_ n1_ n2_ n3_ n4_; (try clear hb); (try clear hb2); (try clear hk); (try clear hi)))
            go_roundg kj10
            case measure => have := HK1.out; have := HJ10.out; omega
            case rel => exact ⟨(y451), (wrap64 (x5_1 - 1)), (wrap64 (x17_1 + 1)), (t455), (by first | rfl | (simp; done) | (simp [*]; done) | (simp; unfold wrap64; omega)), (by first | rfl | (simp; done) | (simp [*]; done) | (simp; unfold wrap64; omega)), H', ⟨by have := HK1.out; have := HJ10.out; omega⟩, ⟨by (with_reducible repeat (first | apply Kd.R_alloc | apply Kd.R_drewN | apply Kd.R_drew)); exact Kd.R_mono HO453.out (fun _ hk => hk.1)⟩, ⟨by (with_reducible repeat (first | apply Kd.R_alloc | apply Kd.R_drewN | apply Kd.R_drew)); exact Kd.R_mono HO_15.out (fun _ hk => hk.2)⟩, ⟨by repeat (first | (with_reducible first | exact HI432.out | apply IsS25.alloc | apply IsS25.drewN | apply IsS25.drew | apply IsS25.set_0 | refine IsS25.farB ?_ NB432_440.out (by repeat (first | exact Typ5.of BK440.out (by decide) | apply Typ5.set | apply Typ5.alloc | apply Typ5.drewN | apply Typ5.drew)) _) | exact HI432.out)⟩, ⟨by repeat (first | (with_reducible first | exact HB.out | apply below_alloc | apply pw_below_drewN | apply below_drew1 | refine below_set ?_ (IsS25.ge HI432.out) | refine below_set ?_ GE440.out) | exact HB.out)⟩⟩
           ·rw [if_neg c65] at H
            exact absurd H (by simp)
          ·rw [if_neg c64] at H
           have c64b0 : (((rd_T28 t436 x17_1).f0) == 4) = false := beq_eq_false_iff_ne.mpr c64
           have c64b1 : (((rd_T28 t436 x17_1).f0) != 4) = true := bne_iff_ne.mpr c64
           by_cases c72 : x4_1.length < 4398046511104
           ·rw [if_pos c72] at H
            have LMc72 := Aside0.mk c72
            clear c72
            obtain ⟨y456, hy456⟩ : ∃ y_ : List (S28), y_ = (x4_1 ++ [(⟨((rd_T28 t436 x17_1).f0), ((rd_T28 t436 x17_1).f1), ((rd_T28 t436 x17_1).f2)⟩ : S28)]) := ⟨_, rfl⟩
            replace H : ((scribelaw01_put.f kj10 x433000_1 ((rd_T28 t436 x17_1).f0) ((rd_T28 t436 x17_1).f1) ((rd_T28 t436 x17_1).f2)).bind fun bt459 => (scribelaw01_PackBack.l0 kj10 y456 x5_1 t436 (t436.length : Int) (wrap64 (x17_1 + 1)) bt459.2)) = some r := by first | (rw [hy456]; with_reducible exact H) | (have H2_ := (Option.bind_some _ _).symm.trans H; rw [hy456]; with_reducible exact H2_) | (have H2_ := (Option.bind_some _ _).symm.trans H; with_reducible exact H2_) | with_reducible exact H | (rw [hy456]; exact H) | exact H
            have Ny456 := Aside0.mk hy456
            clear hy456
            replace H := Option.bind_eq_some_iff.mp H
            obtain ⟨⟨t459, t460⟩, A730, H⟩ := H
            replace H : (scribelaw01_PackBack.l0 kj10 y456 x5_1 t436 (t436.length : Int) (wrap64 (x17_1 + 1)) t460) = some r := H
            have A73 := Aside0.mk A730
            clear A730
            have H' := Aside0.mk H
            clear H
            have hnb74 := NB440_432.out
            have hnc74 := NB432_440.out
            have hcz75_0 : wc.cell? ⟨gb440, 0, none⟩ = some (.int .i64 ((rd_T28 t436 x17_1).f0)) := (blk_cell BK440.out 0).trans rfl
            have hcz75_1 : wc.cell? ⟨gb440, 1, none⟩ = some (.int .i64 ((rd_T28 t436 x17_1).f1)) := (blk_cell BK440.out 1).trans rfl
            have hcz75_2 : wc.cell? ⟨gb440, 2, none⟩ = some (.string ((rd_T28 t436 x17_1).f2)) := (blk_cell BK440.out 2).trans rfl
            have hfz75_0 := blk_frozen BK440.out 0
            have hfz75_1 := blk_frozen BK440.out 1
            have hfz75_2 := blk_frozen BK440.out 2
            go_wp2_with (first | ((with_reducible refine gate_builtin (b := .append) (xs := #[.tmp 57, .tmp 59]) rfl ?_); at_builtin; refine Kd.R_append k28 (w0 := w) w.heap.size rfl (.tmp 57) (.tmp 59) 22 28 (.agg #[(.int .i64 0), (.int .i64 0), (.string ⟨#[]⟩)]) 32 rfl Tryd.underlying22 info28 rfl (by decide) (by omega) u4 x4_1 (⟨((rd_T28 t436 x17_1).f0), ((rd_T28 t436 x17_1).f1), ((rd_T28 t436 x17_1).f2)⟩ : S28) [.int .i64 ((rd_T28 t436 x17_1).f0), .int .i64 ((rd_T28 t436 x17_1).f1), .string ((rd_T28 t436 x17_1).f2)] (fun k_ => some k_ ≠ (.slice (some ad439) t436.length co7 : Value).ownBlock ∧ k_ ≠ gb440) (fun _ => False) rfl rfl ?aP (fun _ hk => hk.elim) ?aF ?aO ?aB ?aS ?aL ?_; (case aP => exact k28_mkM _ _ _ (⟨((rd_T28 t436 x17_1).f0), ((rd_T28 t436 x17_1).f1), ((rd_T28 t436 x17_1).f2)⟩ : S28)); (case aB => exact (by repeat (first | (with_reducible first | exact HB.out | apply below_alloc | apply pw_below_drewN | apply below_drew1 | refine below_set ?_ (IsS25.ge HI432.out) | refine below_set ?_ GE440.out) | exact HB.out))); (case aF => exact (fun k_ hk => ⟨Kd.fresh' (Kd.R_lt (by (with_reducible repeat (first | apply Kd.R_alloc | apply Kd.R_drewN | apply Kd.R_drew)); exact HO_15.out)) k_ hk, Kd.freshB (g := gb440) (o := .cells #[.int .i64 ((rd_T28 t436 x17_1).f0), .int .i64 ((rd_T28 t436 x17_1).f1), .string ((rd_T28 t436 x17_1).f2)] 28 (0, 0)) (by (with_reducible repeat (first | refine blk_drewN ?_ _ | refine blk_drew ?_ | refine blk_alloc ?_ _)); exact BK440.out) k_ hk⟩)); (case aO => exact (by (with_reducible repeat (first | apply Kd.R_alloc | apply Kd.R_drewN | apply Kd.R_drew)); exact HO_4.out)); (case aS => exact (below_size (by repeat (first | (with_reducible first | exact HB.out | apply below_alloc | apply pw_below_drewN | apply below_drew1 | refine below_set ?_ (IsS25.ge HI432.out) | refine below_set ?_ GE440.out) | exact HB.out)))); (case aL => have := LMc72.out; omega); intro v457 w76 ho hb hg hat; rw [← Ny456.out] at ho; have n0_ := Aside0.mk (Kd.R_after (ok := (fun k_ => k_ ≠ gb440)) (by (with_reducible repeat (first | apply Kd.R_alloc | apply Kd.R_drewN | apply Kd.R_drew)); exact Kd.R_mono HO_15.out (fun _ hk => ⟨hk.2, hk.1⟩)) hg hat); have n1_ := Aside0.mk (blk_grown (g := gb440) (o := .cells #[.int .i64 ((rd_T28 t436 x17_1).f0), .int .i64 ((rd_T28 t436 x17_1).f1), .string ((rd_T28 t436 x17_1).f2)] 28 (0, 0)) (by (with_reducible repeat (first | refine blk_drewN ?_ _ | refine blk_drew ?_ | refine blk_alloc ?_ _)); exact BK440.out) hg (Kd.R_away HO_4.out (fun _ hk => hk.2))); have n2_ := Aside0.mk (IsS25.grown (by repeat (first | (with_reducible first | exact HI432.out | apply IsS25.alloc | apply IsS25.drewN | apply IsS25.drew | apply IsS25.set_0 | refine IsS25.farB ?_ NB432_440.out (by repeat (first | exact Typ5.of BK440.out (by decide) | apply Typ5.set | apply Typ5.alloc | apply Typ5.drewN | apply Typ5.drew)) _) | exact HI432.out)) hg (IsS25.own2_ne HI432.out HO_4.out (by decide))); have n3_ := Aside0.mk (hb); have n4_ := Aside0.mk (ho); clear HO_15; clear BK440; clear HI432; clear HB; clear HO_4; have HO_15 := n0_; have BK440 := n1_; have HI432 := n2_; have HB := n3_; have HO458 := n4_; clear n0_ n1_ n2_ n3_ n4_; clear ho hb hg hat; have hcz77_0 : w76.cell? ⟨gb440, 0, none⟩ = some (.int .i64 ((rd_T28 t436 x17_1).f0)) := (blk_cell BK440.out 0).trans rfl; have hcz77_1 : w76.cell? ⟨gb440, 1, none⟩ = some (.int .i64 ((rd_T28 t436 x17_1).f1)) := (blk_cell BK440.out 1).trans rfl; have hcz77_2 : w76.cell? ⟨gb440, 2, none⟩ = some (.string ((rd_T28 t436 x17_1).f2)) := (blk_cell BK440.out 2).trans rfl; have hfz77_0 := blk_frozen BK440.out 0; have hfz77_1 := blk_frozen BK440.out 1; have hfz77_2 := blk_frozen BK440.out 2) | ((with_reducible refine gate_callee (f := 12) rfl ?_); refine goesL_ (some 62) rfl rfl Tryd.func12 (by kernel_rfl) rfl #[.pointer (some ⟨gb432, 0, none⟩), .agg #[.int .i64 ((rd_T28 t436 x17_1).f0), .int .i64 ((rd_T28 t436 x17_1).f1), .string ((rd_T28 t436 x17_1).f2)]] rfl (by (try simp only [List.map_toArray, List.map_cons, List.map_nil]); first | done | rfl | (simp only [List.length_drop, List.length_take]; rfl)) ?_; (with_reducible refine (scribelaw01_put.calls kj10 gb432 x433000_1 ((rd_T28 t436 x17_1).f0) ((rd_T28 t436 x17_1).f1) ((rd_T28 t436 x17_1).f2) t459 t460 w _ ?side1 ?side2 ?side3 A73.out).mono ?_); (case side1 => repeat (first | (with_reducible first | exact HI432.out | apply IsS25.alloc | apply IsS25.drewN | apply IsS25.drew | apply IsS25.set_0 | refine IsS25.farB ?_ NB432_440.out (by repeat (first | exact Typ5.of BK440.out (by decide) | apply Typ5.set | apply Typ5.alloc | apply Typ5.drewN | apply Typ5.drew)) _) | exact HI432.out)); (case side2 => repeat (first | (with_reducible first | exact HB.out | apply below_alloc | apply pw_below_drewN | apply below_drew1 | refine below_set ?_ (IsS25.ge HI432.out) | refine below_set ?_ GE440.out) | exact HB.out)); (case side3 => exact hT); rintro e w78 ⟨rfl, hi, hb, hk⟩; refine ⟨_, rfl, ?_⟩; have n0_ := Aside0.mk (Kd.R_mono (Kd.R_keep (IsS25.apart (show IsS25 w _ gb432 x433000_1 from by repeat (first | (with_reducible first | exact HI432.out | apply IsS25.alloc | apply IsS25.drewN | apply IsS25.drew | apply IsS25.set_0 | refine IsS25.farB ?_ NB432_440.out (by repeat (first | exact Typ5.of BK440.out (by decide) | apply Typ5.set | apply Typ5.alloc | apply Typ5.drewN | apply Typ5.drew)) _) | exact HI432.out)) (by (with_reducible repeat (first | apply Kd.R_alloc | apply Kd.R_drewN | apply Kd.R_drew)); exact HO_15.out) (by decide)) hk (fun _ h => h.2)) (fun _ h => h.1)); have n1_ := Aside0.mk (KeepBut.blk hk (g' := gb440) (o := .cells #[.int .i64 ((rd_T28 t436 x17_1).f0), .int .i64 ((rd_T28 t436 x17_1).f1), .string ((rd_T28 t436 x17_1).f2)] 28 (0, 0)) (by (with_reducible repeat (first | refine blk_drewN ?_ _ | refine blk_drew ?_ | refine blk_alloc ?_ _)); exact BK440.out) NB440_432.out (by simp)); have n2_ := Aside0.mk (Kd.R_mono (Kd.R_keep (IsS25.apart (show IsS25 w _ gb432 x433000_1 from by repeat (first | (with_reducible first | exact HI432.out | apply IsS25.alloc | apply IsS25.drewN | apply IsS25.drew | apply IsS25.set_0 | refine IsS25.farB ?_ NB432_440.out (by repeat (first | exact Typ5.of BK440.out (by decide) | apply Typ5.set | apply Typ5.alloc | apply Typ5.drewN | apply Typ5.drew)) _) | exact HI432.out)) (by (with_reducible repeat (first | apply Kd.R_alloc | apply Kd.R_drewN | apply Kd.R_drew)); exact HO458.out) (by decide)) hk (fun _ h => h.2)) (fun _ h => h.1)); have n3_ := Aside0.mk (hb); have n4_ := Aside0.mk (hi); clear HO_15; clear BK440; clear HO458; clear HB; clear HI432; have HO_15 := n0_; have BK440 := n1_; have HO458 := n2_; have HB := n3_; have HI432 := n4_; clear n0_ n1_ n2_ n3_ n4_; (try clear hb); (try clear hb2); (try clear hk); (try clear hi)))
            go_roundg kj10
            case measure => have := HK1.out; have := HJ10.out; omega
            case rel => exact ⟨(y456), (x5_1), (wrap64 (x17_1 + 1)), (t460), (by first | rfl | (simp; done) | (simp [*]; done) | (simp; unfold wrap64; omega)), (by first | rfl | (simp; done) | (simp [*]; done) | (simp; unfold wrap64; omega)), H', ⟨by have := HK1.out; have := HJ10.out; omega⟩, ⟨by (with_reducible repeat (first | apply Kd.R_alloc | apply Kd.R_drewN | apply Kd.R_drew)); exact Kd.R_mono HO458.out (fun _ hk => hk.1)⟩, ⟨by (with_reducible repeat (first | apply Kd.R_alloc | apply Kd.R_drewN | apply Kd.R_drew)); exact Kd.R_mono HO_15.out (fun _ hk => hk.2)⟩, ⟨by repeat (first | (with_reducible first | exact HI432.out | apply IsS25.alloc | apply IsS25.drewN | apply IsS25.drew | apply IsS25.set_0 | refine IsS25.farB ?_ NB432_440.out (by repeat (first | exact Typ5.of BK440.out (by decide) | apply Typ5.set | apply Typ5.alloc | apply Typ5.drewN | apply Typ5.drew)) _) | exact HI432.out)⟩, ⟨by repeat (first | (with_reducible first | exact HB.out | apply below_alloc | apply pw_below_drewN | apply below_drew1 | refine below_set ?_ (IsS25.ge HI432.out) | refine below_set ?_ GE440.out) | exact HB.out)⟩⟩
           ·rw [if_neg c72] at H
            exact absurd H (by simp)
     ·rw [if_neg c10] at H
      exact absurd H (by simp)
    ·rw [if_neg c9] at H
     exact absurd H (by simp)
   ·rw [if_neg c8] at H
    have c8b0 : decide (x17_1 < (t436.length : Int)) = false := decide_eq_false c8
    clear c8
    have H' := Aside0.mk H
    clear H
    go_wp2
    go_loopg [8] k1 (fun kq v8 w' => ∃ (x8_2 : Int) (x433000_2 : ByteArray), v8 = .int .i64 x8_2 ∧ Aside0 (scribelaw01_PackBack.l1 kq x4_1 x5_1 x8_2 x433000_2 = some r) ∧ Aside0 (kq ≤ k1) ∧ Aside0 (Kd.R k28 28 w' w.heap.size (fun _ => True) u4 x4_1) ∧ Aside0 (IsS25 w w' gb432 x433000_2) ∧ Aside0 (Below w.heap.size w w'))
    case atStart => exact ⟨(0), (x433000_1), (by first | rfl | (simp; done) | (simp [*]; done) | (simp; unfold wrap64; omega)), H', ⟨Nat.le_refl _⟩, ⟨by (with_reducible repeat (first | apply Kd.R_alloc | apply Kd.R_drewN | apply Kd.R_drew)); exact Kd.R_mono HO_4.out (fun _ hk => trivial)⟩, ⟨by repeat (first | (with_reducible first | exact HI432.out | apply IsS25.alloc | apply IsS25.drewN | apply IsS25.drew | apply IsS25.set_0) | exact HI432.out)⟩, ⟨by repeat (first | (with_reducible first | exact HB.out | apply below_alloc | apply pw_below_drewN | apply below_drew1 | refine below_set ?_ (IsS25.ge HI432.out)) | exact HB.out)⟩⟩
    case round =>
     clear H'
     try clear c1
     try clear c2
     try clear p2
     try clear c3
     try clear c4
     try clear p4
     try clear q4
     try clear hx4
     try clear c5
     try clear c6
     try clear p6
     try clear c7
     try clear c8
     try clear c8b0
     try clear c9
     try clear c9b0
     try clear c10
     try clear c10b0
     try clear c11
     try clear c12
     try clear c13
     try clear c15
     try clear c15b0
     try clear c15b1
     try clear c16
     try clear c16b0
     try clear c17
     try clear c19
     try clear c19b0
     try clear c19b1
     try clear c20
     try clear c20b0
     try clear c20b1
     try clear c21
     try clear c23
     try clear c23b0
     try clear c24
     try clear c26
     try clear c28
     try clear c28b0
     try clear c29
     try clear c31
     try clear c33
     try clear c33b0
     try clear c33b1
     try clear c34
     try clear c34b0
     try clear c34b1
     try clear c35
     try clear c37
     try clear c37b0
     try clear c38
     try clear c40
     try clear c42
     try clear c42b0
     try clear c43
     try clear p43
     try clear q43
     try clear hx43
     try clear c45
     try clear c47
     try clear c48
     try clear c48b0
     try clear c48b1
     try clear c49
     try clear c49b0
     try clear c49b1
     try clear c50
     try clear c52
     try clear c57
     try clear c59
     try clear c64
     try clear c64b0
     try clear c64b1
     try clear p64
     try clear c65
     try clear c67
     try clear c72
     try clear c74
     try clear hcz14_0
     try clear hcz14_1
     try clear hcz14_2
     try clear hcz18_0
     try clear hcz18_1
     try clear hcz18_2
     try clear hcz22_0
     try clear hcz22_1
     try clear hcz22_2
     try clear hcz25_0
     try clear hcz25_1
     try clear hcz25_2
     try clear hcz27_0
     try clear hcz27_1
     try clear hcz27_2
     try clear hcz30_0
     try clear hcz30_1
     try clear hcz30_2
     try clear hcz32_0
     try clear hcz32_1
     try clear hcz32_2
     try clear hcz36_0
     try clear hcz36_1
     try clear hcz36_2
     try clear hcz39_0
     try clear hcz39_1
     try clear hcz39_2
     try clear hcz41_0
     try clear hcz41_1
     try clear hcz41_2
     try clear hcz44_0
     try clear hcz44_1
     try clear hcz44_2
     try clear hcz46_0
     try clear hcz46_1
     try clear hcz46_2
     try clear hcz53_0
     try clear hcz53_1
     try clear hcz53_2
     try clear hcz55_0
     try clear hcz55_1
     try clear hcz55_2
     try clear hcz60_0
     try clear hcz60_1
     try clear hcz60_2
     try clear hcz62_0
     try clear hcz62_1
     try clear hcz62_2
     try clear hcz68_0
     try clear hcz68_1
     try clear hcz68_2
     try clear hcz70_0
     try clear hcz70_1
     try clear hcz70_2
     try clear hcz75_0
     try clear hcz75_1
     try clear hcz75_2
     try clear hcz77_0
     try clear hcz77_1
     try clear hcz77_2
     try clear hfz14_0
     try clear hfz14_1
     try clear hfz14_2
     try clear hfz18_0
     try clear hfz18_1
     try clear hfz18_2
     try clear hfz22_0
     try clear hfz22_1
     try clear hfz22_2
     try clear hfz25_0
     try clear hfz25_1
     try clear hfz25_2
     try clear hfz27_0
     try clear hfz27_1
     try clear hfz27_2
     try clear hfz30_0
     try clear hfz30_1
     try clear hfz30_2
     try clear hfz32_0
     try clear hfz32_1
     try clear hfz32_2
     try clear hfz36_0
     try clear hfz36_1
     try clear hfz36_2
     try clear hfz39_0
     try clear hfz39_1
     try clear hfz39_2
     try clear hfz41_0
     try clear hfz41_1
     try clear hfz41_2
     try clear hfz44_0
     try clear hfz44_1
     try clear hfz44_2
     try clear hfz46_0
     try clear hfz46_1
     try clear hfz46_2
     try clear hfz53_0
     try clear hfz53_1
     try clear hfz53_2
     try clear hfz55_0
     try clear hfz55_1
     try clear hfz55_2
     try clear hfz60_0
     try clear hfz60_1
     try clear hfz60_2
     try clear hfz62_0
     try clear hfz62_1
     try clear hfz62_2
     try clear hfz68_0
     try clear hfz68_1
     try clear hfz68_2
     try clear hfz70_0
     try clear hfz70_1
     try clear hfz70_2
     try clear hfz75_0
     try clear hfz75_1
     try clear hfz75_2
     try clear hfz77_0
     try clear hfz77_1
     try clear hfz77_2
     try clear hx439_0
     try clear hx439_1
     try clear hx439_2
     try clear p2
     try clear p4
     try clear p43
     try clear p439
     try clear p6
     try clear q4
     try clear q43
     try clear q439
     obtain ⟨x8_2, x433000_2, rfl, HA, HK2, HO_4, HI432, HB⟩ := hrel
     cases gk with
     | zero => exact absurd HA.out (by simp [scribelaw01_PackBack.l1])
     | succ k2 =>
      have H := HA.out
      clear HA
      simp only [scribelaw01_PackBack.l1] at H
      by_cases c79 : x8_2 < x5_1
      ·rw [if_pos c79] at H
       have c79b0 : decide (x8_2 < x5_1) = true := decide_eq_true c79
       clear c79
       replace H := Option.bind_eq_some_iff.mp H
       obtain ⟨t461, A800, H⟩ := H
       replace H : (scribelaw01_PackBack.l1 k2 x4_1 x5_1 (wrap64 (x8_2 + 1)) t461) = some r := H
       have A80 := Aside0.mk A800
       clear A800
       have H' := Aside0.mk H
       clear H
       go_wp2_with (first | ((with_reducible refine gate_callee (f := 22) rfl ?_); refine goesL_ (some 69) rfl rfl Tryd.func22 (by kernel_rfl) rfl #[.pointer (some ⟨gb432, 0, none⟩)] rfl (by (try simp only [List.map_toArray, List.map_cons, List.map_nil]); first | done | rfl | (simp only [List.length_drop, List.length_take]; rfl)) ?_; (with_reducible refine (pack_Writer_Close.calls gb432 x433000_2 t461 w _ ?side1 ?side2 ?side3 A80.out).mono ?_); (case side1 => repeat (first | (with_reducible first | exact HI432.out | apply IsS25.alloc | apply IsS25.drewN | apply IsS25.drew | apply IsS25.set_0) | exact HI432.out)); (case side2 => repeat (first | (with_reducible first | exact HB.out | apply below_alloc | apply pw_below_drewN | apply below_drew1 | refine below_set ?_ (IsS25.ge HI432.out)) | exact HB.out)); (case side3 => exact hT); rintro e w81 ⟨rfl, hi, hb, hk⟩; refine ⟨_, rfl, ?_⟩; have n0_ := Aside0.mk (Kd.R_mono (Kd.R_keep (IsS25.apart (show IsS25 w _ gb432 x433000_2 from by repeat (first | (with_reducible first | exact HI432.out | apply IsS25.alloc | apply IsS25.drewN | apply IsS25.drew | apply IsS25.set_0) | exact HI432.out)) (by (with_reducible repeat (first | apply Kd.R_alloc | apply Kd.R_drewN | apply Kd.R_drew)); exact HO_4.out) (by decide)) hk (fun _ h => h.2)) (fun _ h => h.1)); have n1_ := Aside0.mk (hb); have n2_ := Aside0.mk (hi); clear HO_4; clear HB; clear HI432; have HO_4 := n0_; have HB := n1_; have HI432 := n2_; clear n0_ n1_ n2_; (try clear hb); (try clear hb2); (try clear hk); (try clear hi)))
       go_roundg k2
       case measure => have := HK1.out; have := HK2.out; omega
       case rel => exact ⟨(wrap64 (x8_2 + 1)), (t461), (by first | rfl | (simp; done) | (simp [*]; done) | (simp; unfold wrap64; omega)), H', ⟨by have := HK1.out; have := HK2.out; omega⟩, ⟨by (with_reducible repeat (first | apply Kd.R_alloc | apply Kd.R_drewN | apply Kd.R_drew)); exact HO_4.out⟩, ⟨by repeat (first | (with_reducible first | exact HI432.out | apply IsS25.alloc | apply IsS25.drewN | apply IsS25.drew | apply IsS25.set_0) | exact HI432.out)⟩, ⟨by repeat (first | (with_reducible first | exact HB.out | apply below_alloc | apply pw_below_drewN | apply below_drew1 | refine below_set ?_ (IsS25.ge HI432.out)) | exact HB.out)⟩⟩
      ·rw [if_neg c79] at H
       have c79b0 : decide (x8_2 < x5_1) = false := decide_eq_false c79
       clear c79
       replace H := Option.bind_eq_some_iff.mp H
       obtain ⟨⟨t462, t463⟩, A820, H⟩ := H
       replace H : ((pack_Read.f t462).bind fun bt464 => (scribelaw01_PackBack.l2 k2 x5_1 x4_1 (x4_1.length : Int) 0 bt464.1 bt464.2.1 bt464.2.2.1 bt464.2.2.2)) = some r := H
       have A82 := Aside0.mk A820
       clear A820
       replace H := Option.bind_eq_some_iff.mp H
       obtain ⟨⟨t464, t465, t466, t467⟩, A830, H⟩ := H
       replace H : (scribelaw01_PackBack.l2 k2 x5_1 x4_1 (x4_1.length : Int) 0 t464 t465 t466 t467) = some r := H
       have A83 := Aside0.mk A830
       clear A830
       have H' := Aside0.mk H
       clear H
       go_wp2_with (first | ((with_reducible refine gate_callee (f := 14) rfl ?_); refine goesL_ (some 70) rfl rfl Tryd.func14 (by kernel_rfl) rfl #[.pointer (some ⟨gb432, 0, none⟩)] rfl (by (try simp only [List.map_toArray, List.map_cons, List.map_nil]); first | done | rfl | (simp only [List.length_drop, List.length_take]; rfl)) ?_; (with_reducible refine (pack_Writer_Bytes.calls gb432 x433000_2 t462 t463 w _ ?side1 ?side2 ?side3 A82.out).mono ?_); (case side1 => repeat (first | (with_reducible first | exact HI432.out | apply IsS25.alloc | apply IsS25.drewN | apply IsS25.drew | apply IsS25.set_0) | exact HI432.out)); (case side2 => repeat (first | (with_reducible first | exact HB.out | apply below_alloc | apply pw_below_drewN | apply below_drew1 | refine below_set ?_ (IsS25.ge HI432.out)) | exact HB.out)); (case side3 => exact hT); rintro e w84 ⟨rfl, hi, hb, hk⟩; refine ⟨_, rfl, ?_⟩; have n0_ := Aside0.mk (Kd.R_mono (Kd.R_keep (IsS25.apart (show IsS25 w _ gb432 x433000_2 from by repeat (first | (with_reducible first | exact HI432.out | apply IsS25.alloc | apply IsS25.drewN | apply IsS25.drew | apply IsS25.set_0) | exact HI432.out)) (by (with_reducible repeat (first | apply Kd.R_alloc | apply Kd.R_drewN | apply Kd.R_drew)); exact HO_4.out) (by decide)) hk (fun _ h => h.2)) (fun _ h => h.1)); have n1_ := Aside0.mk (hb); have n2_ := Aside0.mk (hi); clear HO_4; clear HB; clear HI432; have HO_4 := n0_; have HB := n1_; have HI432 := n2_; clear n0_ n1_ n2_; (try clear hb); (try clear hb2); (try clear hk); (try clear hi)) | ((with_reducible refine gate_callee (f := 16) rfl ?_); refine goesL_ (some 71) rfl rfl Tryd.func16 (by kernel_rfl) rfl #[.string t462] rfl (by (try simp only [List.map_toArray, List.map_cons, List.map_nil]); first | done | rfl | (simp only [List.length_drop, List.length_take]; rfl)) ?_; (with_reducible refine (pack_Read.calls t462 t464 t465 t466 t467 w _ ?side1 ?side2 A83.out).mono ?_); (case side1 => repeat (first | (with_reducible first | exact HB.out | apply below_alloc | apply pw_below_drewN | apply below_drew1 | refine below_set ?_ (IsS25.ge HI432.out)) | exact HB.out)); (case side2 => exact hT); rintro e w85 ⟨g468, rfl, hi, hb, hb2⟩; refine ⟨_, rfl, ?_⟩; have n0_ := Aside0.mk (Kd.R_below (by (with_reducible repeat (first | apply Kd.R_alloc | apply Kd.R_drewN | apply Kd.R_drew)); exact HO_4.out) hb2); have n1_ := Aside0.mk (hb); have n2_ := Aside0.mk (hi); clear HO_4; clear HB; have HO_4 := n0_; have HB := n1_; have HI468 := n2_; clear n0_ n1_ n2_; (try clear hb); (try clear hb2); (try clear hk); (try clear hi); obtain ⟨Ao86, co86, eo86⟩ := Kd.R_slice HO_4.out; subst eo86))
       go_loopg [74] k2 (fun kq v74 w' => ∃ (x74_3 : Int) (x469000_3 : ByteArray) (x469001_3 : Int) (x469002_3 : Int) (x469003_3 : Int), v74 = .int .i64 x74_3 ∧ Aside0 (scribelaw01_PackBack.l2 kq x5_1 x4_1 (x4_1.length : Int) x74_3 x469000_3 x469001_3 x469002_3 x469003_3 = some r) ∧ Aside0 (kq ≤ k2) ∧ Aside0 (Kd.R k28 28 w' w.heap.size (fun _ => True) (.slice Ao86 x4_1.length co86) x4_1) ∧ Aside0 (IsS62 w w' g468 x469000_3 x469001_3 x469002_3 x469003_3) ∧ Aside0 (Below w.heap.size w w'))
       case atStart => exact ⟨(0), (t464), (t465), (t466), (t467), (by first | rfl | (simp; done) | (simp [*]; done) | (simp; unfold wrap64; omega)), H', ⟨Nat.le_refl _⟩, ⟨by (with_reducible repeat (first | apply Kd.R_alloc | apply Kd.R_drewN | apply Kd.R_drew)); exact HO_4.out⟩, ⟨by repeat (first | (with_reducible first | exact HI468.out | apply IsS62.alloc | apply IsS62.drewN | apply IsS62.drew | apply IsS62.set_0 | apply IsS62.set_1 | apply IsS62.set_2 | apply IsS62.set_3) | exact HI468.out)⟩, ⟨by repeat (first | (with_reducible first | exact HB.out | apply below_alloc | apply pw_below_drewN | apply below_drew1 | refine below_set ?_ (IsS62.ge HI468.out)) | exact HB.out)⟩⟩
       case round =>
        clear H'
        try clear c1
        try clear c2
        try clear p2
        try clear c3
        try clear c4
        try clear p4
        try clear q4
        try clear hx4
        try clear c5
        try clear c6
        try clear p6
        try clear c7
        try clear c8
        try clear c8b0
        try clear c9
        try clear c9b0
        try clear c10
        try clear c10b0
        try clear c11
        try clear c12
        try clear c13
        try clear c14
        try clear c15
        try clear c15b0
        try clear c15b1
        try clear c16
        try clear c16b0
        try clear c17
        try clear c19
        try clear c19b0
        try clear c19b1
        try clear c20
        try clear c20b0
        try clear c20b1
        try clear c21
        try clear c22
        try clear c23
        try clear c23b0
        try clear c24
        try clear c26
        try clear c28
        try clear c28b0
        try clear c29
        try clear c31
        try clear c33
        try clear c33b0
        try clear c33b1
        try clear c34
        try clear c34b0
        try clear c34b1
        try clear c35
        try clear c37
        try clear c37b0
        try clear c38
        try clear c40
        try clear c42
        try clear c42b0
        try clear c43
        try clear p43
        try clear q43
        try clear hx43
        try clear c45
        try clear c47
        try clear c48
        try clear c48b0
        try clear c48b1
        try clear c49
        try clear c49b0
        try clear c49b1
        try clear c50
        try clear c52
        try clear c57
        try clear c59
        try clear c64
        try clear c64b0
        try clear c64b1
        try clear p64
        try clear c65
        try clear c67
        try clear c72
        try clear c74
        try clear c79
        try clear c79b0
        try clear hcz14_0
        try clear hcz14_1
        try clear hcz14_2
        try clear hcz18_0
        try clear hcz18_1
        try clear hcz18_2
        try clear hcz22_0
        try clear hcz22_1
        try clear hcz22_2
        try clear hcz25_0
        try clear hcz25_1
        try clear hcz25_2
        try clear hcz27_0
        try clear hcz27_1
        try clear hcz27_2
        try clear hcz30_0
        try clear hcz30_1
        try clear hcz30_2
        try clear hcz32_0
        try clear hcz32_1
        try clear hcz32_2
        try clear hcz36_0
        try clear hcz36_1
        try clear hcz36_2
        try clear hcz39_0
        try clear hcz39_1
        try clear hcz39_2
        try clear hcz41_0
        try clear hcz41_1
        try clear hcz41_2
        try clear hcz44_0
        try clear hcz44_1
        try clear hcz44_2
        try clear hcz46_0
        try clear hcz46_1
        try clear hcz46_2
        try clear hcz53_0
        try clear hcz53_1
        try clear hcz53_2
        try clear hcz55_0
        try clear hcz55_1
        try clear hcz55_2
        try clear hcz60_0
        try clear hcz60_1
        try clear hcz60_2
        try clear hcz62_0
        try clear hcz62_1
        try clear hcz62_2
        try clear hcz68_0
        try clear hcz68_1
        try clear hcz68_2
        try clear hcz70_0
        try clear hcz70_1
        try clear hcz70_2
        try clear hcz75_0
        try clear hcz75_1
        try clear hcz75_2
        try clear hcz77_0
        try clear hcz77_1
        try clear hcz77_2
        try clear hfz14_0
        try clear hfz14_1
        try clear hfz14_2
        try clear hfz18_0
        try clear hfz18_1
        try clear hfz18_2
        try clear hfz22_0
        try clear hfz22_1
        try clear hfz22_2
        try clear hfz25_0
        try clear hfz25_1
        try clear hfz25_2
        try clear hfz27_0
        try clear hfz27_1
        try clear hfz27_2
        try clear hfz30_0
        try clear hfz30_1
        try clear hfz30_2
        try clear hfz32_0
        try clear hfz32_1
        try clear hfz32_2
        try clear hfz36_0
        try clear hfz36_1
        try clear hfz36_2
        try clear hfz39_0
        try clear hfz39_1
        try clear hfz39_2
        try clear hfz41_0
        try clear hfz41_1
        try clear hfz41_2
        try clear hfz44_0
        try clear hfz44_1
        try clear hfz44_2
        try clear hfz46_0
        try clear hfz46_1
        try clear hfz46_2
        try clear hfz53_0
        try clear hfz53_1
        try clear hfz53_2
        try clear hfz55_0
        try clear hfz55_1
        try clear hfz55_2
        try clear hfz60_0
        try clear hfz60_1
        try clear hfz60_2
        try clear hfz62_0
        try clear hfz62_1
        try clear hfz62_2
        try clear hfz68_0
        try clear hfz68_1
        try clear hfz68_2
        try clear hfz70_0
        try clear hfz70_1
        try clear hfz70_2
        try clear hfz75_0
        try clear hfz75_1
        try clear hfz75_2
        try clear hfz77_0
        try clear hfz77_1
        try clear hfz77_2
        try clear hx439_0
        try clear hx439_1
        try clear hx439_2
        try clear p2
        try clear p4
        try clear p43
        try clear p439
        try clear p6
        try clear p64
        try clear q4
        try clear q43
        try clear q439
        obtain ⟨x74_3, x469000_3, x469001_3, x469002_3, x469003_3, rfl, HA, HK3, HO_72, HI468, HB⟩ := hrel
        cases gk with
        | zero => exact absurd HA.out (by simp [scribelaw01_PackBack.l2])
        | succ k3 =>
         have H := HA.out
         clear HA
         simp only [scribelaw01_PackBack.l2] at H
         by_cases c87 : x74_3 < (x4_1.length : Int)
         ·rw [if_pos c87] at H
          have c87b0 : decide (x74_3 < (x4_1.length : Int)) = true := decide_eq_true c87
          clear c87
          by_cases c88 : 0 ≤ x74_3
          ·rw [if_pos c88] at H
           have c88b0 : decide (0 ≤ x74_3) = true := decide_eq_true c88
           clear c88
           by_cases c89 : x74_3 < (x4_1.length : Int)
           ·rw [if_pos c89] at H
            have c89b0 : decide (x74_3 < (x4_1.length : Int)) = true := decide_eq_true c89
            clear c89
            by_cases c90 : ((rd_T28 x4_1 x74_3).f0) = 1
            ·rw [if_pos c90] at H
             have c90b0 : (((rd_T28 x4_1 x74_3).f0) == 1) = true := beq_iff_eq.mpr c90
             have c90b1 : (((rd_T28 x4_1 x74_3).f0) != 1) = false := bne_eq_false_iff_eq.mpr c90
             clear c90
             replace H := Option.bind_eq_some_iff.mp H
             obtain ⟨⟨t471, t472, t473, t474, t475⟩, A910, H⟩ := H
             replace H : (if t471 = ((rd_T28 x4_1 x74_3).f1) then (scribelaw01_PackBack.l2 k3 x5_1 x4_1 (x4_1.length : Int) (wrap64 (x74_3 + 1)) t472 t473 t474 t475) else (some false)) = some r := H
             have A91 := Aside0.mk A910
             clear A910
             by_cases c92 : t471 = ((rd_T28 x4_1 x74_3).f1)
             ·rw [if_pos c92] at H
              have c92b0 : (t471 == ((rd_T28 x4_1 x74_3).f1)) = true := beq_iff_eq.mpr c92
              have c92b1 : (t471 != ((rd_T28 x4_1 x74_3).f1)) = false := bne_eq_false_iff_eq.mpr c92
              clear c92
              have H' := Aside0.mk H
              clear H
              have p469 : 0 ≤ (x74_3 : Int) := of_decide_eq_true (by first | (with_reducible assumption) | assumption)
              have q469 : x74_3 < (x4_1.length : Int) := of_decide_eq_true (by first | (with_reducible assumption) | assumption)
              obtain ⟨ad469, e469, hx469_0, hx469_1, hx469_2⟩ := at_T28 (Kd.R_reads' HO_72.out).2.2 x74_3 p469 q469
              cases e469
              replace p469 := eq_true p469
              replace q469 := eq_true q469
              try go_wp2_with (first | ((with_reducible refine gate_dst (N := 11) rfl ?_); refine box_event ?hg (N := 11) ?hd (cs := #[.int .i64 0, .int .i64 0, .string (⟨#[]⟩ : ByteArray)]) (t := 28) ?hr ?_; (case hd => rfl); (case hg => rfl); (case hr => first | (go_simp; done) | (go_simp; rfl)); intro gb470 hg w93 hbox hb; have n0_ := Aside0.mk (Kd.R_below (Kd.R_elderB (by (with_reducible repeat (first | apply Kd.R_alloc | apply Kd.R_drewN | apply Kd.R_drew)); exact HO_72.out) gb470 (Nat.le_of_eq hg.symm)) hb); have n1_ := Aside0.mk (IsS62.below (by repeat (first | (with_reducible first | exact HI468.out | apply IsS62.alloc | apply IsS62.drewN | apply IsS62.drew | apply IsS62.set_0 | apply IsS62.set_1 | apply IsS62.set_2 | apply IsS62.set_3) | exact HI468.out)) hb); have n2_ := Aside0.mk (below_step (by repeat (first | (with_reducible first | exact HB.out | apply below_alloc | apply pw_below_drewN | apply below_drew1 | refine below_set ?_ (IsS62.ge HI468.out)) | exact HB.out)) hb); have n3_ := Aside0.mk (hbox); have n4_ := Aside0.mk ((by rw [hg]; exact (below_size (by repeat (first | (with_reducible first | exact HB.out | apply below_alloc | apply pw_below_drewN | apply below_drew1 | refine below_set ?_ (IsS62.ge HI468.out)) | exact HB.out))) : w.heap.size ≤ gb470)); have n5_ := Aside0.mk ((by rw [hg]; exact (below_size (by repeat (first | (with_reducible first | exact HB.out | apply below_alloc | apply pw_below_drewN | apply below_drew1 | refine below_set ?_ (IsS62.ge HI468.out)) | exact HB.out))) : w.heap.size ≤ gb470)); have n6_ := Aside0.mk ((by rw [hg]; exact Nat.ne_of_lt (IsS62.lt (show IsS62 w _ g468 x469000_3 x469001_3 x469002_3 x469003_3 from by repeat (first | (with_reducible first | exact HI468.out | apply IsS62.alloc | apply IsS62.drewN | apply IsS62.drew | apply IsS62.set_0 | apply IsS62.set_1 | apply IsS62.set_2 | apply IsS62.set_3) | exact HI468.out))) : g468 ≠ gb470)); have n7_ := Aside0.mk ((by rw [hg]; exact Nat.ne_of_gt (IsS62.lt (show IsS62 w _ g468 x469000_3 x469001_3 x469002_3 x469003_3 from by repeat (first | (with_reducible first | exact HI468.out | apply IsS62.alloc | apply IsS62.drewN | apply IsS62.drew | apply IsS62.set_0 | apply IsS62.set_1 | apply IsS62.set_2 | apply IsS62.set_3) | exact HI468.out))) : gb470 ≠ g468)); clear HO_72; clear HI468; clear HB; have HO_72 := n0_; have HI468 := n1_; have HB := n2_; have BK470 := n3_; have GW470 := n4_; have GE470 := n5_; have NB468_470 := n6_; have NB470_468 := n7_; clear n0_ n1_ n2_ n3_ n4_ n5_ n6_ n7_; clear hb hbox hg; have hnb94 := NB470_468.out; have hnc94 := NB468_470.out; have hcz95_0 : w93.cell? ⟨gb470, 0, none⟩ = some (.int .i64 0) := (blk_cell BK470.out 0).trans rfl; have hcz95_1 : w93.cell? ⟨gb470, 1, none⟩ = some (.int .i64 0) := (blk_cell BK470.out 1).trans rfl; have hcz95_2 : w93.cell? ⟨gb470, 2, none⟩ = some (.string (⟨#[]⟩ : ByteArray)) := (blk_cell BK470.out 2).trans rfl; have hfz95_0 := blk_frozen BK470.out 0; have hfz95_1 := blk_frozen BK470.out 1; have hfz95_2 := blk_frozen BK470.out 2))
              have n0_ : Aside0 (Kd.R k28 28 (((w93.setCell ⟨gb470, 0, none⟩ (.int .i64 ((rd_T28 x4_1 x74_3).f0))).setCell ⟨gb470, 1, none⟩ (.int .i64 ((rd_T28 x4_1 x74_3).f1))).setCell ⟨gb470, 2, none⟩ (.string ((rd_T28 x4_1 x74_3).f2))) w.heap.size (fun k_ => k_ ≠ gb470) (.slice (some ad469) x4_1.length co86) x4_1) := ⟨by (with_reducible repeat (first | apply Kd.R_alloc | apply Kd.R_drewN | apply Kd.R_drew)); exact Kd.R_mono (Kd.R_far (p := ⟨gb470, 2, none⟩) (Kd.R_far (p := ⟨gb470, 1, none⟩) (Kd.R_far (p := ⟨gb470, 0, none⟩) (Kd.R_mono HO_72.out (fun k_ hk => (⟨hk, hk.2⟩ : _ ∧ k_ ≠ gb470))) (fun _ hk => hk.2) (.int .i64 ((rd_T28 x4_1 x74_3).f0))) (fun _ hk => hk.2) (.int .i64 ((rd_T28 x4_1 x74_3).f1))) (fun _ hk => hk.2) (.string ((rd_T28 x4_1 x74_3).f2))) (fun _ hk => hk.1.2)⟩
              have n1_ : Aside0 ((((w93.setCell ⟨gb470, 0, none⟩ (.int .i64 ((rd_T28 x4_1 x74_3).f0))).setCell ⟨gb470, 1, none⟩ (.int .i64 ((rd_T28 x4_1 x74_3).f1))).setCell ⟨gb470, 2, none⟩ (.string ((rd_T28 x4_1 x74_3).f2))).heap[gb470]? = some (.cells #[.int .i64 ((rd_T28 x4_1 x74_3).f0), .int .i64 ((rd_T28 x4_1 x74_3).f1), .string ((rd_T28 x4_1 x74_3).f2)] 28 (0, 0))) := ⟨by (with_reducible repeat (first | refine blk_drewN ?_ _ | refine blk_drew ?_ | refine blk_alloc ?_ _)); refine blk_put (cs := #[.int .i64 ((rd_T28 x4_1 x74_3).f0), .int .i64 ((rd_T28 x4_1 x74_3).f1), .string (⟨#[]⟩ : ByteArray)]) ?_ 2 _ rfl; (with_reducible repeat (first | refine blk_drewN ?_ _ | refine blk_drew ?_ | refine blk_alloc ?_ _)); refine blk_put (cs := #[.int .i64 ((rd_T28 x4_1 x74_3).f0), .int .i64 0, .string (⟨#[]⟩ : ByteArray)]) ?_ 1 _ rfl; (with_reducible repeat (first | refine blk_drewN ?_ _ | refine blk_drew ?_ | refine blk_alloc ?_ _)); refine blk_put (cs := #[.int .i64 0, .int .i64 0, .string (⟨#[]⟩ : ByteArray)]) ?_ 0 _ rfl; (with_reducible repeat (first | refine blk_drewN ?_ _ | refine blk_drew ?_ | refine blk_alloc ?_ _)); exact BK470.out⟩
              have n2_ : Aside0 (IsS62 w (((w93.setCell ⟨gb470, 0, none⟩ (.int .i64 ((rd_T28 x4_1 x74_3).f0))).setCell ⟨gb470, 1, none⟩ (.int .i64 ((rd_T28 x4_1 x74_3).f1))).setCell ⟨gb470, 2, none⟩ (.string ((rd_T28 x4_1 x74_3).f2))) g468 x469000_3 x469001_3 x469002_3 x469003_3) := ⟨by repeat (first | (with_reducible first | exact HI468.out | apply IsS62.alloc | apply IsS62.drewN | apply IsS62.drew | apply IsS62.set_0 | apply IsS62.set_1 | apply IsS62.set_2 | apply IsS62.set_3 | apply IsS62.far (hne := NB468_470.out)) | exact HI468.out)⟩
              have n3_ : Aside0 (Below w.heap.size w (((w93.setCell ⟨gb470, 0, none⟩ (.int .i64 ((rd_T28 x4_1 x74_3).f0))).setCell ⟨gb470, 1, none⟩ (.int .i64 ((rd_T28 x4_1 x74_3).f1))).setCell ⟨gb470, 2, none⟩ (.string ((rd_T28 x4_1 x74_3).f2)))) := ⟨by repeat (first | (with_reducible first | exact HB.out | apply below_alloc | apply pw_below_drewN | apply below_drew1 | refine below_set ?_ (IsS62.ge HI468.out) | refine below_set ?_ GE470.out) | exact HB.out)⟩
              (try clear HO_72)
              (try clear BK470)
              (try clear HI468)
              (try clear HB)
              generalize (((w93.setCell ⟨gb470, 0, none⟩ (.int .i64 ((rd_T28 x4_1 x74_3).f0))).setCell ⟨gb470, 1, none⟩ (.int .i64 ((rd_T28 x4_1 x74_3).f1))).setCell ⟨gb470, 2, none⟩ (.string ((rd_T28 x4_1 x74_3).f2))) = w96 at n0_ n1_ n2_ n3_ ⊢
              have HO_72 := n0_
              have BK470 := n1_
              have HI468 := n2_
              have HB := n3_
              clear n0_ n1_ n2_ n3_
              have n0_ := Aside0.mk (Kd.R_drew HO_72.out)
              have n1_ := Aside0.mk (blk_drew BK470.out)
              have n2_ := Aside0.mk (IsS62.drew HI468.out)
              have n3_ := Aside0.mk (below_drew1 HB.out)
              clear HO_72
              clear BK470
              clear HI468
              clear HB
              have HO_72 := n0_
              have BK470 := n1_
              have HI468 := n2_
              have HB := n3_
              clear n0_ n1_ n2_ n3_
              refine start_ (n := 5) (S := fun w' => w'.cell? ⟨gb470, 0, none⟩ = some (.int .i64 ((rd_T28 x4_1 x74_3).f0)) ∧ w'.cell? ⟨gb470, 1, none⟩ = some (.int .i64 ((rd_T28 x4_1 x74_3).f1)) ∧ w'.cell? ⟨gb470, 2, none⟩ = some (.string ((rd_T28 x4_1 x74_3).f2))) (ds := []) #[false, false, false, false, false] (by kernel_rfl) rfl rfl ⟨(blk_cell BK470.out 0).trans rfl, (blk_cell BK470.out 1).trans rfl, (blk_cell BK470.out 2).trans rfl⟩ (fun hHeld => ?_)
              generalize w96.drew = w97 at HO_72 BK470 HI468 HB hHeld ⊢
              refine pure_ (i := 0) (N := some 82) (v := ?_) (a' := ?_) #[true, false, false, false, false] rfl rfl (by kernel_rfl) (fun _ _ _ h => h) (Or.inl ⟨by rfl, ?_⟩) ?_ ?_
              rotate_left
              ·intro w'
               go_simp
               with_reducible rfl
              rotate_left
              ·simp only [Act.put, setA, setZ, setS, i64_w, i32_w]
               rfl
              refine pure_ (i := 2) (N := some 84) (v := ?_) (a' := ?_) #[true, false, true, false, false] rfl rfl (by kernel_rfl) (fun _ _ _ h => h) (Or.inl ⟨by rfl, ?_⟩) ?_ ?_
              rotate_left
              ·intro w'
               go_simp
               with_reducible rfl
              rotate_left
              ·simp only [Act.put, setA, setZ, setS, i64_w, i32_w]
               rfl
              refine take_ (i := 3) (N := some 85) (v := ?_) (a' := ?_) #[true, false, true, true, false] rfl rfl (by kernel_rfl) (fun _ _ _ h => h) (Or.inl ⟨by rfl, ?_⟩) hHeld ?_ ?_
              rotate_left
              ·rintro w' ⟨s0, s1, s2⟩
               go_simp
               with_reducible rfl
              rotate_left
              ·simp only [Act.put, setA, setZ, setS, i64_w, i32_w]
               rfl
              refine one_ (i := 1) (N := some 83) #[true, true, true, true, false] rfl rfl (by kernel_rfl) (by decide) (fun K hK => ?_)
              refine goes_ Tryd.func17 (by kernel_rfl) rfl #[.pointer (some ⟨g468, 0, none⟩)] (by rfl) rfl rfl (by (try simp only [List.map_toArray, List.map_cons, List.map_nil]); first | done | rfl | (simp only [List.length_drop, List.length_take]; rfl)) ?_
              with_reducible refine (pack_Reader_Int.calls k3 g468 x469000_3 x469001_3 x469002_3 x469003_3 t471 t472 t473 t474 t475 w _ ?side1 ?side2 ?side3 A91.out).mono ?_
              (case side1 => repeat (first | (with_reducible first | exact HI468.out | apply IsS62.alloc | apply IsS62.drewN | apply IsS62.drew | apply IsS62.set_0 | apply IsS62.set_1 | apply IsS62.set_2 | apply IsS62.set_3 | apply IsS62.far (hne := NB468_470.out)) | exact HI468.out))
              (case side2 => repeat (first | (with_reducible first | exact HB.out | apply below_alloc | apply pw_below_drewN | apply below_drew1 | refine below_set ?_ (IsS62.ge HI468.out) | refine below_set ?_ GE470.out) | exact HB.out))
              (case side3 => exact hT)
              rintro e w98 ⟨rfl, hi, hb, hk⟩
              refine ⟨_, rfl, ?_⟩
              have n0_ := Aside0.mk (Kd.R_mono (Kd.R_keep (IsS62.apart (show IsS62 w _ g468 x469000_3 x469001_3 x469002_3 x469003_3 from by repeat (first | (with_reducible first | exact HI468.out | apply IsS62.alloc | apply IsS62.drewN | apply IsS62.drew | apply IsS62.set_0 | apply IsS62.set_1 | apply IsS62.set_2 | apply IsS62.set_3 | apply IsS62.far (hne := NB468_470.out)) | exact HI468.out)) (by (with_reducible repeat (first | apply Kd.R_alloc | apply Kd.R_drewN | apply Kd.R_drew)); exact HO_72.out) (by decide)) hk (fun _ h => h.2)) (fun _ h => h.1))
              have n1_ := Aside0.mk (KeepBut.blk hk (g' := gb470) (o := .cells #[.int .i64 ((rd_T28 x4_1 x74_3).f0), .int .i64 ((rd_T28 x4_1 x74_3).f1), .string ((rd_T28 x4_1 x74_3).f2)] 28 (0, 0)) (by (with_reducible repeat (first | refine blk_drewN ?_ _ | refine blk_drew ?_ | refine blk_alloc ?_ _)); exact BK470.out) NB470_468.out (by simp))
              have n2_ := Aside0.mk (hb)
              have n3_ := Aside0.mk (hi)
              clear HO_72
              clear BK470
              clear HB
              clear HI468
              have HO_72 := n0_
              have BK470 := n1_
              have HB := n2_
              have HI468 := n3_
              clear n0_ n1_ n2_ n3_
              (try clear hb)
              (try clear hb2)
              (try clear hk)
              (try clear hi)
              refine hK.out _ _ ⟨(blk_cell BK470.out 0).trans rfl, (blk_cell BK470.out 1).trans rfl, (blk_cell BK470.out 2).trans rfl⟩ (fun hHeld => ?_)
              clear hK K
              refine norm_ (a' := ?_) ?_ ?_
              rotate_left
              ·show Act.put _ (some 83) _ = _
               simp only [Act.put, setA, setZ, setS, i64_w, i32_w]
               rfl
              refine pure_ (i := 4) (N := some 86) (v := ?_) (a' := ?_) #[true, true, true, true, true] rfl rfl (by kernel_rfl) (fun _ _ _ h => h) (Or.inl ⟨by rfl, ?_⟩) ?_ ?_
              rotate_left
              ·intro w'
               go_simp
               with_reducible rfl
              rotate_left
              ·simp only [Act.put, setA, setZ, setS, i64_w, i32_w]
               rfl
              refine done_ (by kernel_rfl) ?_
              try go_wp2
              go_roundg k3
              case measure => have := HK1.out; have := HK2.out; have := HK3.out; omega
              case rel => exact ⟨(wrap64 (x74_3 + 1)), (t472), (t473), (t474), (t475), (by first | rfl | (simp; done) | (simp [*]; done) | (simp; unfold wrap64; omega)), H', ⟨by have := HK1.out; have := HK2.out; have := HK3.out; omega⟩, ⟨by (with_reducible repeat (first | apply Kd.R_alloc | apply Kd.R_drewN | apply Kd.R_drew)); exact Kd.R_mono HO_72.out (fun _ hk => trivial)⟩, ⟨by repeat (first | (with_reducible first | exact HI468.out | apply IsS62.alloc | apply IsS62.drewN | apply IsS62.drew | apply IsS62.set_0 | apply IsS62.set_1 | apply IsS62.set_2 | apply IsS62.set_3 | apply IsS62.far (hne := NB468_470.out)) | exact HI468.out)⟩, ⟨by repeat (first | (with_reducible first | exact HB.out | apply below_alloc | apply pw_below_drewN | apply below_drew1 | refine below_set ?_ (IsS62.ge HI468.out) | refine below_set ?_ GE470.out) | exact HB.out)⟩⟩
             ·rw [if_neg c92] at H
              have c92b0 : (t471 == ((rd_T28 x4_1 x74_3).f1)) = false := beq_eq_false_iff_ne.mpr c92
              have c92b1 : (t471 != ((rd_T28 x4_1 x74_3).f1)) = true := bne_iff_ne.mpr c92
              obtain rfl := Option.some.inj H
              have p469 : 0 ≤ (x74_3 : Int) := of_decide_eq_true (by first | (with_reducible assumption) | assumption)
              have q469 : x74_3 < (x4_1.length : Int) := of_decide_eq_true (by first | (with_reducible assumption) | assumption)
              obtain ⟨ad469, e469, hx469_0, hx469_1, hx469_2⟩ := at_T28 (Kd.R_reads' HO_72.out).2.2 x74_3 p469 q469
              cases e469
              replace p469 := eq_true p469
              replace q469 := eq_true q469
              try go_wp2_with (first | ((with_reducible refine gate_dst (N := 11) rfl ?_); refine box_event ?hg (N := 11) ?hd (cs := #[.int .i64 0, .int .i64 0, .string (⟨#[]⟩ : ByteArray)]) (t := 28) ?hr ?_; (case hd => rfl); (case hg => rfl); (case hr => first | (go_simp; done) | (go_simp; rfl)); intro gb470 hg w99 hbox hb; have n0_ := Aside0.mk (Kd.R_below (Kd.R_elderB (by (with_reducible repeat (first | apply Kd.R_alloc | apply Kd.R_drewN | apply Kd.R_drew)); exact HO_72.out) gb470 (Nat.le_of_eq hg.symm)) hb); have n1_ := Aside0.mk (IsS62.below (by repeat (first | (with_reducible first | exact HI468.out | apply IsS62.alloc | apply IsS62.drewN | apply IsS62.drew | apply IsS62.set_0 | apply IsS62.set_1 | apply IsS62.set_2 | apply IsS62.set_3) | exact HI468.out)) hb); have n2_ := Aside0.mk (below_step (by repeat (first | (with_reducible first | exact HB.out | apply below_alloc | apply pw_below_drewN | apply below_drew1 | refine below_set ?_ (IsS62.ge HI468.out)) | exact HB.out)) hb); have n3_ := Aside0.mk (hbox); have n4_ := Aside0.mk ((by rw [hg]; exact (below_size (by repeat (first | (with_reducible first | exact HB.out | apply below_alloc | apply pw_below_drewN | apply below_drew1 | refine below_set ?_ (IsS62.ge HI468.out)) | exact HB.out))) : w.heap.size ≤ gb470)); have n5_ := Aside0.mk ((by rw [hg]; exact (below_size (by repeat (first | (with_reducible first | exact HB.out | apply below_alloc | apply pw_below_drewN | apply below_drew1 | refine below_set ?_ (IsS62.ge HI468.out)) | exact HB.out))) : w.heap.size ≤ gb470)); have n6_ := Aside0.mk ((by rw [hg]; exact Nat.ne_of_lt (IsS62.lt (show IsS62 w _ g468 x469000_3 x469001_3 x469002_3 x469003_3 from by repeat (first | (with_reducible first | exact HI468.out | apply IsS62.alloc | apply IsS62.drewN | apply IsS62.drew | apply IsS62.set_0 | apply IsS62.set_1 | apply IsS62.set_2 | apply IsS62.set_3) | exact HI468.out))) : g468 ≠ gb470)); have n7_ := Aside0.mk ((by rw [hg]; exact Nat.ne_of_gt (IsS62.lt (show IsS62 w _ g468 x469000_3 x469001_3 x469002_3 x469003_3 from by repeat (first | (with_reducible first | exact HI468.out | apply IsS62.alloc | apply IsS62.drewN | apply IsS62.drew | apply IsS62.set_0 | apply IsS62.set_1 | apply IsS62.set_2 | apply IsS62.set_3) | exact HI468.out))) : gb470 ≠ g468)); clear HO_72; clear HI468; clear HB; have HO_72 := n0_; have HI468 := n1_; have HB := n2_; have BK470 := n3_; have GW470 := n4_; have GE470 := n5_; have NB468_470 := n6_; have NB470_468 := n7_; clear n0_ n1_ n2_ n3_ n4_ n5_ n6_ n7_; clear hb hbox hg; have hnb100 := NB470_468.out; have hnc100 := NB468_470.out; have hcz101_0 : w99.cell? ⟨gb470, 0, none⟩ = some (.int .i64 0) := (blk_cell BK470.out 0).trans rfl; have hcz101_1 : w99.cell? ⟨gb470, 1, none⟩ = some (.int .i64 0) := (blk_cell BK470.out 1).trans rfl; have hcz101_2 : w99.cell? ⟨gb470, 2, none⟩ = some (.string (⟨#[]⟩ : ByteArray)) := (blk_cell BK470.out 2).trans rfl; have hfz101_0 := blk_frozen BK470.out 0; have hfz101_1 := blk_frozen BK470.out 1; have hfz101_2 := blk_frozen BK470.out 2))
              have n0_ : Aside0 (Kd.R k28 28 (((w99.setCell ⟨gb470, 0, none⟩ (.int .i64 ((rd_T28 x4_1 x74_3).f0))).setCell ⟨gb470, 1, none⟩ (.int .i64 ((rd_T28 x4_1 x74_3).f1))).setCell ⟨gb470, 2, none⟩ (.string ((rd_T28 x4_1 x74_3).f2))) w.heap.size (fun k_ => k_ ≠ gb470) (.slice (some ad469) x4_1.length co86) x4_1) := ⟨by (with_reducible repeat (first | apply Kd.R_alloc | apply Kd.R_drewN | apply Kd.R_drew)); exact Kd.R_mono (Kd.R_far (p := ⟨gb470, 2, none⟩) (Kd.R_far (p := ⟨gb470, 1, none⟩) (Kd.R_far (p := ⟨gb470, 0, none⟩) (Kd.R_mono HO_72.out (fun k_ hk => (⟨hk, hk.2⟩ : _ ∧ k_ ≠ gb470))) (fun _ hk => hk.2) (.int .i64 ((rd_T28 x4_1 x74_3).f0))) (fun _ hk => hk.2) (.int .i64 ((rd_T28 x4_1 x74_3).f1))) (fun _ hk => hk.2) (.string ((rd_T28 x4_1 x74_3).f2))) (fun _ hk => hk.1.2)⟩
              have n1_ : Aside0 ((((w99.setCell ⟨gb470, 0, none⟩ (.int .i64 ((rd_T28 x4_1 x74_3).f0))).setCell ⟨gb470, 1, none⟩ (.int .i64 ((rd_T28 x4_1 x74_3).f1))).setCell ⟨gb470, 2, none⟩ (.string ((rd_T28 x4_1 x74_3).f2))).heap[gb470]? = some (.cells #[.int .i64 ((rd_T28 x4_1 x74_3).f0), .int .i64 ((rd_T28 x4_1 x74_3).f1), .string ((rd_T28 x4_1 x74_3).f2)] 28 (0, 0))) := ⟨by (with_reducible repeat (first | refine blk_drewN ?_ _ | refine blk_drew ?_ | refine blk_alloc ?_ _)); refine blk_put (cs := #[.int .i64 ((rd_T28 x4_1 x74_3).f0), .int .i64 ((rd_T28 x4_1 x74_3).f1), .string (⟨#[]⟩ : ByteArray)]) ?_ 2 _ rfl; (with_reducible repeat (first | refine blk_drewN ?_ _ | refine blk_drew ?_ | refine blk_alloc ?_ _)); refine blk_put (cs := #[.int .i64 ((rd_T28 x4_1 x74_3).f0), .int .i64 0, .string (⟨#[]⟩ : ByteArray)]) ?_ 1 _ rfl; (with_reducible repeat (first | refine blk_drewN ?_ _ | refine blk_drew ?_ | refine blk_alloc ?_ _)); refine blk_put (cs := #[.int .i64 0, .int .i64 0, .string (⟨#[]⟩ : ByteArray)]) ?_ 0 _ rfl; (with_reducible repeat (first | refine blk_drewN ?_ _ | refine blk_drew ?_ | refine blk_alloc ?_ _)); exact BK470.out⟩
              have n2_ : Aside0 (IsS62 w (((w99.setCell ⟨gb470, 0, none⟩ (.int .i64 ((rd_T28 x4_1 x74_3).f0))).setCell ⟨gb470, 1, none⟩ (.int .i64 ((rd_T28 x4_1 x74_3).f1))).setCell ⟨gb470, 2, none⟩ (.string ((rd_T28 x4_1 x74_3).f2))) g468 x469000_3 x469001_3 x469002_3 x469003_3) := ⟨by repeat (first | (with_reducible first | exact HI468.out | apply IsS62.alloc | apply IsS62.drewN | apply IsS62.drew | apply IsS62.set_0 | apply IsS62.set_1 | apply IsS62.set_2 | apply IsS62.set_3 | apply IsS62.far (hne := NB468_470.out)) | exact HI468.out)⟩
              have n3_ : Aside0 (Below w.heap.size w (((w99.setCell ⟨gb470, 0, none⟩ (.int .i64 ((rd_T28 x4_1 x74_3).f0))).setCell ⟨gb470, 1, none⟩ (.int .i64 ((rd_T28 x4_1 x74_3).f1))).setCell ⟨gb470, 2, none⟩ (.string ((rd_T28 x4_1 x74_3).f2)))) := ⟨by repeat (first | (with_reducible first | exact HB.out | apply below_alloc | apply pw_below_drewN | apply below_drew1 | refine below_set ?_ (IsS62.ge HI468.out) | refine below_set ?_ GE470.out) | exact HB.out)⟩
              (try clear HO_72)
              (try clear BK470)
              (try clear HI468)
              (try clear HB)
              generalize (((w99.setCell ⟨gb470, 0, none⟩ (.int .i64 ((rd_T28 x4_1 x74_3).f0))).setCell ⟨gb470, 1, none⟩ (.int .i64 ((rd_T28 x4_1 x74_3).f1))).setCell ⟨gb470, 2, none⟩ (.string ((rd_T28 x4_1 x74_3).f2))) = w102 at n0_ n1_ n2_ n3_ ⊢
              have HO_72 := n0_
              have BK470 := n1_
              have HI468 := n2_
              have HB := n3_
              clear n0_ n1_ n2_ n3_
              have n0_ := Aside0.mk (Kd.R_drew HO_72.out)
              have n1_ := Aside0.mk (blk_drew BK470.out)
              have n2_ := Aside0.mk (IsS62.drew HI468.out)
              have n3_ := Aside0.mk (below_drew1 HB.out)
              clear HO_72
              clear BK470
              clear HI468
              clear HB
              have HO_72 := n0_
              have BK470 := n1_
              have HI468 := n2_
              have HB := n3_
              clear n0_ n1_ n2_ n3_
              refine start_ (n := 5) (S := fun w' => w'.cell? ⟨gb470, 0, none⟩ = some (.int .i64 ((rd_T28 x4_1 x74_3).f0)) ∧ w'.cell? ⟨gb470, 1, none⟩ = some (.int .i64 ((rd_T28 x4_1 x74_3).f1)) ∧ w'.cell? ⟨gb470, 2, none⟩ = some (.string ((rd_T28 x4_1 x74_3).f2))) (ds := []) #[false, false, false, false, false] (by kernel_rfl) rfl rfl ⟨(blk_cell BK470.out 0).trans rfl, (blk_cell BK470.out 1).trans rfl, (blk_cell BK470.out 2).trans rfl⟩ (fun hHeld => ?_)
              generalize w102.drew = w103 at HO_72 BK470 HI468 HB hHeld ⊢
              refine pure_ (i := 0) (N := some 82) (v := ?_) (a' := ?_) #[true, false, false, false, false] rfl rfl (by kernel_rfl) (fun _ _ _ h => h) (Or.inl ⟨by rfl, ?_⟩) ?_ ?_
              rotate_left
              ·intro w'
               go_simp
               with_reducible rfl
              rotate_left
              ·simp only [Act.put, setA, setZ, setS, i64_w, i32_w]
               rfl
              refine pure_ (i := 2) (N := some 84) (v := ?_) (a' := ?_) #[true, false, true, false, false] rfl rfl (by kernel_rfl) (fun _ _ _ h => h) (Or.inl ⟨by rfl, ?_⟩) ?_ ?_
              rotate_left
              ·intro w'
               go_simp
               with_reducible rfl
              rotate_left
              ·simp only [Act.put, setA, setZ, setS, i64_w, i32_w]
               rfl
              refine take_ (i := 3) (N := some 85) (v := ?_) (a' := ?_) #[true, false, true, true, false] rfl rfl (by kernel_rfl) (fun _ _ _ h => h) (Or.inl ⟨by rfl, ?_⟩) hHeld ?_ ?_
              rotate_left
              ·rintro w' ⟨s0, s1, s2⟩
               go_simp
               with_reducible rfl
              rotate_left
              ·simp only [Act.put, setA, setZ, setS, i64_w, i32_w]
               rfl
              refine one_ (i := 1) (N := some 83) #[true, true, true, true, false] rfl rfl (by kernel_rfl) (by decide) (fun K hK => ?_)
              refine goes_ Tryd.func17 (by kernel_rfl) rfl #[.pointer (some ⟨g468, 0, none⟩)] (by rfl) rfl rfl (by (try simp only [List.map_toArray, List.map_cons, List.map_nil]); first | done | rfl | (simp only [List.length_drop, List.length_take]; rfl)) ?_
              with_reducible refine (pack_Reader_Int.calls k3 g468 x469000_3 x469001_3 x469002_3 x469003_3 t471 t472 t473 t474 t475 w _ ?side1 ?side2 ?side3 A91.out).mono ?_
              (case side1 => repeat (first | (with_reducible first | exact HI468.out | apply IsS62.alloc | apply IsS62.drewN | apply IsS62.drew | apply IsS62.set_0 | apply IsS62.set_1 | apply IsS62.set_2 | apply IsS62.set_3 | apply IsS62.far (hne := NB468_470.out)) | exact HI468.out))
              (case side2 => repeat (first | (with_reducible first | exact HB.out | apply below_alloc | apply pw_below_drewN | apply below_drew1 | refine below_set ?_ (IsS62.ge HI468.out) | refine below_set ?_ GE470.out) | exact HB.out))
              (case side3 => exact hT)
              rintro e w104 ⟨rfl, hi, hb, hk⟩
              refine ⟨_, rfl, ?_⟩
              have n0_ := Aside0.mk (Kd.R_mono (Kd.R_keep (IsS62.apart (show IsS62 w _ g468 x469000_3 x469001_3 x469002_3 x469003_3 from by repeat (first | (with_reducible first | exact HI468.out | apply IsS62.alloc | apply IsS62.drewN | apply IsS62.drew | apply IsS62.set_0 | apply IsS62.set_1 | apply IsS62.set_2 | apply IsS62.set_3 | apply IsS62.far (hne := NB468_470.out)) | exact HI468.out)) (by (with_reducible repeat (first | apply Kd.R_alloc | apply Kd.R_drewN | apply Kd.R_drew)); exact HO_72.out) (by decide)) hk (fun _ h => h.2)) (fun _ h => h.1))
              have n1_ := Aside0.mk (KeepBut.blk hk (g' := gb470) (o := .cells #[.int .i64 ((rd_T28 x4_1 x74_3).f0), .int .i64 ((rd_T28 x4_1 x74_3).f1), .string ((rd_T28 x4_1 x74_3).f2)] 28 (0, 0)) (by (with_reducible repeat (first | refine blk_drewN ?_ _ | refine blk_drew ?_ | refine blk_alloc ?_ _)); exact BK470.out) NB470_468.out (by simp))
              have n2_ := Aside0.mk (hb)
              have n3_ := Aside0.mk (hi)
              clear HO_72
              clear BK470
              clear HB
              clear HI468
              have HO_72 := n0_
              have BK470 := n1_
              have HB := n2_
              have HI468 := n3_
              clear n0_ n1_ n2_ n3_
              (try clear hb)
              (try clear hb2)
              (try clear hk)
              (try clear hi)
              refine hK.out _ _ ⟨(blk_cell BK470.out 0).trans rfl, (blk_cell BK470.out 1).trans rfl, (blk_cell BK470.out 2).trans rfl⟩ (fun hHeld => ?_)
              clear hK K
              refine norm_ (a' := ?_) ?_ ?_
              rotate_left
              ·show Act.put _ (some 83) _ = _
               simp only [Act.put, setA, setZ, setS, i64_w, i32_w]
               rfl
              refine pure_ (i := 4) (N := some 86) (v := ?_) (a' := ?_) #[true, true, true, true, true] rfl rfl (by kernel_rfl) (fun _ _ _ h => h) (Or.inl ⟨by rfl, ?_⟩) ?_ ?_
              rotate_left
              ·intro w'
               go_simp
               with_reducible rfl
              rotate_left
              ·simp only [Act.put, setA, setZ, setS, i64_w, i32_w]
               rfl
              refine done_ (by kernel_rfl) ?_
              try go_wp2
              go_ret
              exact ⟨by first | rfl | (simp [errW_none, errW_some] <;> rfl) | (simp [errW_none, errW_some] <;> first | rfl | exact isEmpty_bne _) | (simp [*, errW_none, errW_some] <;> rfl), by repeat (first | (with_reducible first | exact HB.out | apply below_alloc | apply pw_below_drewN | apply below_drew1 | refine below_set ?_ (IsS62.ge HI468.out) | refine below_set ?_ GE470.out) | exact HB.out)⟩
            ·rw [if_neg c90] at H
             have c90b0 : (((rd_T28 x4_1 x74_3).f0) == 1) = false := beq_eq_false_iff_ne.mpr c90
             have c90b1 : (((rd_T28 x4_1 x74_3).f0) != 1) = true := bne_iff_ne.mpr c90
             by_cases c105 : ((rd_T28 x4_1 x74_3).f0) = 2
             ·rw [if_pos c105] at H
              have c105b0 : (((rd_T28 x4_1 x74_3).f0) == 2) = true := beq_iff_eq.mpr c105
              have c105b1 : (((rd_T28 x4_1 x74_3).f0) != 2) = false := bne_eq_false_iff_eq.mpr c105
              clear c105
              replace H := Option.bind_eq_some_iff.mp H
              obtain ⟨⟨t476, t477, t478, t479, t480⟩, A1060, H⟩ := H
              replace H : (if t476.toList = ((rd_T28 x4_1 x74_3).f2).toList then (scribelaw01_PackBack.l2 k3 x5_1 x4_1 (x4_1.length : Int) (wrap64 (x74_3 + 1)) t477 t478 t479 t480) else (some false)) = some r := H
              have A106 := Aside0.mk A1060
              clear A1060
              by_cases c107 : t476.toList = ((rd_T28 x4_1 x74_3).f2).toList
              ·rw [if_pos c107] at H
               have c107b0 : (t476.toList == ((rd_T28 x4_1 x74_3).f2).toList) = true := beq_iff_eq.mpr c107
               have c107b1 : (t476.toList != ((rd_T28 x4_1 x74_3).f2).toList) = false := bne_eq_false_iff_eq.mpr c107
               clear c107
               have H' := Aside0.mk H
               clear H
               have p469 : 0 ≤ (x74_3 : Int) := of_decide_eq_true (by first | (with_reducible assumption) | assumption)
               have q469 : x74_3 < (x4_1.length : Int) := of_decide_eq_true (by first | (with_reducible assumption) | assumption)
               obtain ⟨ad469, e469, hx469_0, hx469_1, hx469_2⟩ := at_T28 (Kd.R_reads' HO_72.out).2.2 x74_3 p469 q469
               cases e469
               replace p469 := eq_true p469
               replace q469 := eq_true q469
               try go_wp2_with (first | ((with_reducible refine gate_dst (N := 11) rfl ?_); refine box_event ?hg (N := 11) ?hd (cs := #[.int .i64 0, .int .i64 0, .string (⟨#[]⟩ : ByteArray)]) (t := 28) ?hr ?_; (case hd => rfl); (case hg => rfl); (case hr => first | (go_simp; done) | (go_simp; rfl)); intro gb470 hg w108 hbox hb; have n0_ := Aside0.mk (Kd.R_below (Kd.R_elderB (by (with_reducible repeat (first | apply Kd.R_alloc | apply Kd.R_drewN | apply Kd.R_drew)); exact HO_72.out) gb470 (Nat.le_of_eq hg.symm)) hb); have n1_ := Aside0.mk (IsS62.below (by repeat (first | (with_reducible first | exact HI468.out | apply IsS62.alloc | apply IsS62.drewN | apply IsS62.drew | apply IsS62.set_0 | apply IsS62.set_1 | apply IsS62.set_2 | apply IsS62.set_3) | exact HI468.out)) hb); have n2_ := Aside0.mk (below_step (by repeat (first | (with_reducible first | exact HB.out | apply below_alloc | apply pw_below_drewN | apply below_drew1 | refine below_set ?_ (IsS62.ge HI468.out)) | exact HB.out)) hb); have n3_ := Aside0.mk (hbox); have n4_ := Aside0.mk ((by rw [hg]; exact (below_size (by repeat (first | (with_reducible first | exact HB.out | apply below_alloc | apply pw_below_drewN | apply below_drew1 | refine below_set ?_ (IsS62.ge HI468.out)) | exact HB.out))) : w.heap.size ≤ gb470)); have n5_ := Aside0.mk ((by rw [hg]; exact (below_size (by repeat (first | (with_reducible first | exact HB.out | apply below_alloc | apply pw_below_drewN | apply below_drew1 | refine below_set ?_ (IsS62.ge HI468.out)) | exact HB.out))) : w.heap.size ≤ gb470)); have n6_ := Aside0.mk ((by rw [hg]; exact Nat.ne_of_lt (IsS62.lt (show IsS62 w _ g468 x469000_3 x469001_3 x469002_3 x469003_3 from by repeat (first | (with_reducible first | exact HI468.out | apply IsS62.alloc | apply IsS62.drewN | apply IsS62.drew | apply IsS62.set_0 | apply IsS62.set_1 | apply IsS62.set_2 | apply IsS62.set_3) | exact HI468.out))) : g468 ≠ gb470)); have n7_ := Aside0.mk ((by rw [hg]; exact Nat.ne_of_gt (IsS62.lt (show IsS62 w _ g468 x469000_3 x469001_3 x469002_3 x469003_3 from by repeat (first | (with_reducible first | exact HI468.out | apply IsS62.alloc | apply IsS62.drewN | apply IsS62.drew | apply IsS62.set_0 | apply IsS62.set_1 | apply IsS62.set_2 | apply IsS62.set_3) | exact HI468.out))) : gb470 ≠ g468)); clear HO_72; clear HI468; clear HB; have HO_72 := n0_; have HI468 := n1_; have HB := n2_; have BK470 := n3_; have GW470 := n4_; have GE470 := n5_; have NB468_470 := n6_; have NB470_468 := n7_; clear n0_ n1_ n2_ n3_ n4_ n5_ n6_ n7_; clear hb hbox hg; have hnb109 := NB470_468.out; have hnc109 := NB468_470.out; have hcz110_0 : w108.cell? ⟨gb470, 0, none⟩ = some (.int .i64 0) := (blk_cell BK470.out 0).trans rfl; have hcz110_1 : w108.cell? ⟨gb470, 1, none⟩ = some (.int .i64 0) := (blk_cell BK470.out 1).trans rfl; have hcz110_2 : w108.cell? ⟨gb470, 2, none⟩ = some (.string (⟨#[]⟩ : ByteArray)) := (blk_cell BK470.out 2).trans rfl; have hfz110_0 := blk_frozen BK470.out 0; have hfz110_1 := blk_frozen BK470.out 1; have hfz110_2 := blk_frozen BK470.out 2))
               have n0_ : Aside0 (Kd.R k28 28 (((w108.setCell ⟨gb470, 0, none⟩ (.int .i64 ((rd_T28 x4_1 x74_3).f0))).setCell ⟨gb470, 1, none⟩ (.int .i64 ((rd_T28 x4_1 x74_3).f1))).setCell ⟨gb470, 2, none⟩ (.string ((rd_T28 x4_1 x74_3).f2))) w.heap.size (fun k_ => k_ ≠ gb470) (.slice (some ad469) x4_1.length co86) x4_1) := ⟨by (with_reducible repeat (first | apply Kd.R_alloc | apply Kd.R_drewN | apply Kd.R_drew)); exact Kd.R_mono (Kd.R_far (p := ⟨gb470, 2, none⟩) (Kd.R_far (p := ⟨gb470, 1, none⟩) (Kd.R_far (p := ⟨gb470, 0, none⟩) (Kd.R_mono HO_72.out (fun k_ hk => (⟨hk, hk.2⟩ : _ ∧ k_ ≠ gb470))) (fun _ hk => hk.2) (.int .i64 ((rd_T28 x4_1 x74_3).f0))) (fun _ hk => hk.2) (.int .i64 ((rd_T28 x4_1 x74_3).f1))) (fun _ hk => hk.2) (.string ((rd_T28 x4_1 x74_3).f2))) (fun _ hk => hk.1.2)⟩
               have n1_ : Aside0 ((((w108.setCell ⟨gb470, 0, none⟩ (.int .i64 ((rd_T28 x4_1 x74_3).f0))).setCell ⟨gb470, 1, none⟩ (.int .i64 ((rd_T28 x4_1 x74_3).f1))).setCell ⟨gb470, 2, none⟩ (.string ((rd_T28 x4_1 x74_3).f2))).heap[gb470]? = some (.cells #[.int .i64 ((rd_T28 x4_1 x74_3).f0), .int .i64 ((rd_T28 x4_1 x74_3).f1), .string ((rd_T28 x4_1 x74_3).f2)] 28 (0, 0))) := ⟨by (with_reducible repeat (first | refine blk_drewN ?_ _ | refine blk_drew ?_ | refine blk_alloc ?_ _)); refine blk_put (cs := #[.int .i64 ((rd_T28 x4_1 x74_3).f0), .int .i64 ((rd_T28 x4_1 x74_3).f1), .string (⟨#[]⟩ : ByteArray)]) ?_ 2 _ rfl; (with_reducible repeat (first | refine blk_drewN ?_ _ | refine blk_drew ?_ | refine blk_alloc ?_ _)); refine blk_put (cs := #[.int .i64 ((rd_T28 x4_1 x74_3).f0), .int .i64 0, .string (⟨#[]⟩ : ByteArray)]) ?_ 1 _ rfl; (with_reducible repeat (first | refine blk_drewN ?_ _ | refine blk_drew ?_ | refine blk_alloc ?_ _)); refine blk_put (cs := #[.int .i64 0, .int .i64 0, .string (⟨#[]⟩ : ByteArray)]) ?_ 0 _ rfl; (with_reducible repeat (first | refine blk_drewN ?_ _ | refine blk_drew ?_ | refine blk_alloc ?_ _)); exact BK470.out⟩
               have n2_ : Aside0 (IsS62 w (((w108.setCell ⟨gb470, 0, none⟩ (.int .i64 ((rd_T28 x4_1 x74_3).f0))).setCell ⟨gb470, 1, none⟩ (.int .i64 ((rd_T28 x4_1 x74_3).f1))).setCell ⟨gb470, 2, none⟩ (.string ((rd_T28 x4_1 x74_3).f2))) g468 x469000_3 x469001_3 x469002_3 x469003_3) := ⟨by repeat (first | (with_reducible first | exact HI468.out | apply IsS62.alloc | apply IsS62.drewN | apply IsS62.drew | apply IsS62.set_0 | apply IsS62.set_1 | apply IsS62.set_2 | apply IsS62.set_3 | apply IsS62.far (hne := NB468_470.out)) | exact HI468.out)⟩
               have n3_ : Aside0 (Below w.heap.size w (((w108.setCell ⟨gb470, 0, none⟩ (.int .i64 ((rd_T28 x4_1 x74_3).f0))).setCell ⟨gb470, 1, none⟩ (.int .i64 ((rd_T28 x4_1 x74_3).f1))).setCell ⟨gb470, 2, none⟩ (.string ((rd_T28 x4_1 x74_3).f2)))) := ⟨by repeat (first | (with_reducible first | exact HB.out | apply below_alloc | apply pw_below_drewN | apply below_drew1 | refine below_set ?_ (IsS62.ge HI468.out) | refine below_set ?_ GE470.out) | exact HB.out)⟩
               (try clear HO_72)
               (try clear BK470)
               (try clear HI468)
               (try clear HB)
               generalize (((w108.setCell ⟨gb470, 0, none⟩ (.int .i64 ((rd_T28 x4_1 x74_3).f0))).setCell ⟨gb470, 1, none⟩ (.int .i64 ((rd_T28 x4_1 x74_3).f1))).setCell ⟨gb470, 2, none⟩ (.string ((rd_T28 x4_1 x74_3).f2))) = w111 at n0_ n1_ n2_ n3_ ⊢
               have HO_72 := n0_
               have BK470 := n1_
               have HI468 := n2_
               have HB := n3_
               clear n0_ n1_ n2_ n3_
               have n0_ := Aside0.mk (Kd.R_drew HO_72.out)
               have n1_ := Aside0.mk (blk_drew BK470.out)
               have n2_ := Aside0.mk (IsS62.drew HI468.out)
               have n3_ := Aside0.mk (below_drew1 HB.out)
               clear HO_72
               clear BK470
               clear HI468
               clear HB
               have HO_72 := n0_
               have BK470 := n1_
               have HI468 := n2_
               have HB := n3_
               clear n0_ n1_ n2_ n3_
               refine start_ (n := 8) (S := fun w' => w'.cell? ⟨gb470, 0, none⟩ = some (.int .i64 ((rd_T28 x4_1 x74_3).f0)) ∧ w'.cell? ⟨gb470, 1, none⟩ = some (.int .i64 ((rd_T28 x4_1 x74_3).f1)) ∧ w'.cell? ⟨gb470, 2, none⟩ = some (.string ((rd_T28 x4_1 x74_3).f2))) (ds := []) #[ff,ff,ff,ff,ff,ff,ff,ff] (by kernel_rfl) rfl rfl ⟨(blk_cell BK470.out 0).trans rfl, (blk_cell BK470.out 1).trans rfl, (blk_cell BK470.out 2).trans rfl⟩ (fun hHeld => ?_); refine with_tabW scribelaw01_PackBack.tab28 scribelaw01_PackBack.bits28 (fun HT_ HW_ => ?_)
               generalize w111.drew = w112 at HO_72 BK470 HI468 HB hHeld ⊢
               refine pure_ (i := 0) (N := some 89) (v := ?_) (a' := ?_) #[tt,ff,ff,ff,ff,ff,ff,ff] rfl rfl (any_of HT_.out (by kernel_rfl)) (fun _ _ _ h => h) (Or.inl ⟨by rfl, ?_⟩) ?_ ?_
               rotate_left
               ·intro w'
                go_simp
                with_reducible rfl
               rotate_left
               ·simp only [Act.put, setA, setZ, setS, i64_w, i32_w]
                rfl
               refine pure_ (i := 1) (N := some 90) (v := ?_) (a' := ?_) #[tt,tt,ff,ff,ff,ff,ff,ff] rfl rfl (any_of HT_.out (by kernel_rfl)) (fun _ _ _ h => h) (Or.inl ⟨by rfl, ?_⟩) ?_ ?_
               rotate_left
               ·intro w'
                go_simp
                with_reducible rfl
               rotate_left
               ·simp only [Act.put, setA, setZ, setS, i64_w, i32_w]
                rfl
               refine pure_ (i := 5) (N := some 94) (v := ?_) (a' := ?_) #[tt,tt,ff,ff,ff,tt,ff,ff] rfl rfl (any_of HT_.out (by kernel_rfl)) (fun _ _ _ h => h) (Or.inl ⟨by rfl, ?_⟩) ?_ ?_
               rotate_left
               ·intro w'
                go_simp
                with_reducible rfl
               rotate_left
               ·simp only [Act.put, setA, setZ, setS, i64_w, i32_w]
                rfl
               refine take_ (i := 2) (N := some 91) (v := ?_) (a' := ?_) #[tt,tt,tt,ff,ff,tt,ff,ff] rfl rfl (take_ofW HT_.out HW_.out (by kernel_rfl)) (fun _ _ _ h => h) (Or.inl ⟨by rfl, ?_⟩) hHeld ?_ ?_
               rotate_left
               ·rintro w' ⟨s0, s1, s2⟩
                go_simp
                with_reducible rfl
               rotate_left
               ·simp only [Act.put, setA, setZ, setS, i64_w, i32_w]
                rfl
               refine pure_ (i := 3) (N := some 92) (v := ?_) (a' := ?_) #[tt,tt,tt,tt,ff,tt,ff,ff] rfl rfl (any_of HT_.out (by kernel_rfl)) (fun _ _ _ h => h) (Or.inl ⟨by rfl, ?_⟩) ?_ ?_
               rotate_left
               ·intro w'
                go_simp
                with_reducible rfl
               rotate_left
               ·simp only [Act.put, setA, setZ, setS, i64_w, i32_w]
                rfl
               refine take_ (i := 6) (N := some 95) (v := ?_) (a' := ?_) #[tt,tt,tt,tt,ff,tt,tt,ff] rfl rfl (take_ofW HT_.out HW_.out (by kernel_rfl)) (fun _ _ _ h => h) (Or.inl ⟨by rfl, ?_⟩) hHeld ?_ ?_
               rotate_left
               ·rintro w' ⟨s0, s1, s2⟩
                go_simp
                with_reducible rfl
               rotate_left
               ·simp only [Act.put, setA, setZ, setS, i64_w, i32_w]
                rfl
               refine one_ (i := 4) (N := some 93) #[tt,tt,tt,tt,tt,tt,tt,ff] rfl rfl (one_of HT_.out (by kernel_rfl)) (by decide) (fun K hK => ?_)
               refine goes_ Tryd.func20 (by kernel_rfl) rfl #[.pointer (some ⟨g468, 0, none⟩), .int .i64 (((rd_T28 x4_1 x74_3).f2).size : Int)] (by rfl) rfl rfl (by (try simp only [List.map_toArray, List.map_cons, List.map_nil]); first | done | rfl | (simp only [List.length_drop, List.length_take]; rfl)) ?_
               with_reducible refine (pack_Reader_Text.calls k3 g468 x469000_3 x469001_3 x469002_3 x469003_3 (((rd_T28 x4_1 x74_3).f2).size : Int) t476 t477 t478 t479 t480 w _ ?side1 ?side2 ?side3 A106.out).mono ?_
               (case side1 => repeat (first | (with_reducible first | exact HI468.out | apply IsS62.alloc | apply IsS62.drewN | apply IsS62.drew | apply IsS62.set_0 | apply IsS62.set_1 | apply IsS62.set_2 | apply IsS62.set_3 | apply IsS62.far (hne := NB468_470.out)) | exact HI468.out))
               (case side2 => repeat (first | (with_reducible first | exact HB.out | apply below_alloc | apply pw_below_drewN | apply below_drew1 | refine below_set ?_ (IsS62.ge HI468.out) | refine below_set ?_ GE470.out) | exact HB.out))
               (case side3 => exact hT)
               rintro e w113 ⟨rfl, hi, hb, hk⟩
               refine ⟨_, rfl, ?_⟩
               have n0_ := Aside0.mk (Kd.R_mono (Kd.R_keep (IsS62.apart (show IsS62 w _ g468 x469000_3 x469001_3 x469002_3 x469003_3 from by repeat (first | (with_reducible first | exact HI468.out | apply IsS62.alloc | apply IsS62.drewN | apply IsS62.drew | apply IsS62.set_0 | apply IsS62.set_1 | apply IsS62.set_2 | apply IsS62.set_3 | apply IsS62.far (hne := NB468_470.out)) | exact HI468.out)) (by (with_reducible repeat (first | apply Kd.R_alloc | apply Kd.R_drewN | apply Kd.R_drew)); exact HO_72.out) (by decide)) hk (fun _ h => h.2)) (fun _ h => h.1))
               have n1_ := Aside0.mk (KeepBut.blk hk (g' := gb470) (o := .cells #[.int .i64 ((rd_T28 x4_1 x74_3).f0), .int .i64 ((rd_T28 x4_1 x74_3).f1), .string ((rd_T28 x4_1 x74_3).f2)] 28 (0, 0)) (by (with_reducible repeat (first | refine blk_drewN ?_ _ | refine blk_drew ?_ | refine blk_alloc ?_ _)); exact BK470.out) NB470_468.out (by simp))
               have n2_ := Aside0.mk (hb)
               have n3_ := Aside0.mk (hi)
               clear HO_72
               clear BK470
               clear HB
               clear HI468
               have HO_72 := n0_
               have BK470 := n1_
               have HB := n2_
               have HI468 := n3_
               clear n0_ n1_ n2_ n3_
               (try clear hb)
               (try clear hb2)
               (try clear hk)
               (try clear hi)
               refine hK.out _ _ ⟨(blk_cell BK470.out 0).trans rfl, (blk_cell BK470.out 1).trans rfl, (blk_cell BK470.out 2).trans rfl⟩ (fun hHeld => ?_)
               clear hK K
               refine norm_ (a' := ?_) ?_ ?_
               rotate_left
               ·show Act.put _ (some 93) _ = _
                simp only [Act.put, setA, setZ, setS, i64_w, i32_w]
                rfl
               refine pure_ (i := 7) (N := some 96) (v := ?_) (a' := ?_) #[tt,tt,tt,tt,tt,tt,tt,tt] rfl rfl (any_of HT_.out (by kernel_rfl)) (fun _ _ _ h => h) (Or.inl ⟨by rfl, ?_⟩) ?_ ?_
               rotate_left
               ·intro w'
                go_simp
                with_reducible rfl
               rotate_left
               ·simp only [Act.put, setA, setZ, setS, i64_w, i32_w]
                rfl
               refine done_ (done_of HT_.out (by kernel_rfl)) ?_
               try go_wp2
               go_roundg k3
               case measure => have := HK1.out; have := HK2.out; have := HK3.out; omega
               case rel => exact ⟨(wrap64 (x74_3 + 1)), (t477), (t478), (t479), (t480), (by first | rfl | (simp; done) | (simp [*]; done) | (simp; unfold wrap64; omega)), H', ⟨by have := HK1.out; have := HK2.out; have := HK3.out; omega⟩, ⟨by (with_reducible repeat (first | apply Kd.R_alloc | apply Kd.R_drewN | apply Kd.R_drew)); exact Kd.R_mono HO_72.out (fun _ hk => trivial)⟩, ⟨by repeat (first | (with_reducible first | exact HI468.out | apply IsS62.alloc | apply IsS62.drewN | apply IsS62.drew | apply IsS62.set_0 | apply IsS62.set_1 | apply IsS62.set_2 | apply IsS62.set_3 | apply IsS62.far (hne := NB468_470.out)) | exact HI468.out)⟩, ⟨by repeat (first | (with_reducible first | exact HB.out | apply below_alloc | apply pw_below_drewN | apply below_drew1 | refine below_set ?_ (IsS62.ge HI468.out) | refine below_set ?_ GE470.out) | exact HB.out)⟩⟩
              ·rw [if_neg c107] at H
               have c107b0 : (t476.toList == ((rd_T28 x4_1 x74_3).f2).toList) = false := beq_eq_false_iff_ne.mpr c107
               have c107b1 : (t476.toList != ((rd_T28 x4_1 x74_3).f2).toList) = true := bne_iff_ne.mpr c107
               obtain rfl := Option.some.inj H
               have p469 : 0 ≤ (x74_3 : Int) := of_decide_eq_true (by first | (with_reducible assumption) | assumption)
               have q469 : x74_3 < (x4_1.length : Int) := of_decide_eq_true (by first | (with_reducible assumption) | assumption)
               obtain ⟨ad469, e469, hx469_0, hx469_1, hx469_2⟩ := at_T28 (Kd.R_reads' HO_72.out).2.2 x74_3 p469 q469
               cases e469
               replace p469 := eq_true p469
               replace q469 := eq_true q469
               try go_wp2_with (first | ((with_reducible refine gate_dst (N := 11) rfl ?_); refine box_event ?hg (N := 11) ?hd (cs := #[.int .i64 0, .int .i64 0, .string (⟨#[]⟩ : ByteArray)]) (t := 28) ?hr ?_; (case hd => rfl); (case hg => rfl); (case hr => first | (go_simp; done) | (go_simp; rfl)); intro gb470 hg w114 hbox hb; have n0_ := Aside0.mk (Kd.R_below (Kd.R_elderB (by (with_reducible repeat (first | apply Kd.R_alloc | apply Kd.R_drewN | apply Kd.R_drew)); exact HO_72.out) gb470 (Nat.le_of_eq hg.symm)) hb); have n1_ := Aside0.mk (IsS62.below (by repeat (first | (with_reducible first | exact HI468.out | apply IsS62.alloc | apply IsS62.drewN | apply IsS62.drew | apply IsS62.set_0 | apply IsS62.set_1 | apply IsS62.set_2 | apply IsS62.set_3) | exact HI468.out)) hb); have n2_ := Aside0.mk (below_step (by repeat (first | (with_reducible first | exact HB.out | apply below_alloc | apply pw_below_drewN | apply below_drew1 | refine below_set ?_ (IsS62.ge HI468.out)) | exact HB.out)) hb); have n3_ := Aside0.mk (hbox); have n4_ := Aside0.mk ((by rw [hg]; exact (below_size (by repeat (first | (with_reducible first | exact HB.out | apply below_alloc | apply pw_below_drewN | apply below_drew1 | refine below_set ?_ (IsS62.ge HI468.out)) | exact HB.out))) : w.heap.size ≤ gb470)); have n5_ := Aside0.mk ((by rw [hg]; exact (below_size (by repeat (first | (with_reducible first | exact HB.out | apply below_alloc | apply pw_below_drewN | apply below_drew1 | refine below_set ?_ (IsS62.ge HI468.out)) | exact HB.out))) : w.heap.size ≤ gb470)); have n6_ := Aside0.mk ((by rw [hg]; exact Nat.ne_of_lt (IsS62.lt (show IsS62 w _ g468 x469000_3 x469001_3 x469002_3 x469003_3 from by repeat (first | (with_reducible first | exact HI468.out | apply IsS62.alloc | apply IsS62.drewN | apply IsS62.drew | apply IsS62.set_0 | apply IsS62.set_1 | apply IsS62.set_2 | apply IsS62.set_3) | exact HI468.out))) : g468 ≠ gb470)); have n7_ := Aside0.mk ((by rw [hg]; exact Nat.ne_of_gt (IsS62.lt (show IsS62 w _ g468 x469000_3 x469001_3 x469002_3 x469003_3 from by repeat (first | (with_reducible first | exact HI468.out | apply IsS62.alloc | apply IsS62.drewN | apply IsS62.drew | apply IsS62.set_0 | apply IsS62.set_1 | apply IsS62.set_2 | apply IsS62.set_3) | exact HI468.out))) : gb470 ≠ g468)); clear HO_72; clear HI468; clear HB; have HO_72 := n0_; have HI468 := n1_; have HB := n2_; have BK470 := n3_; have GW470 := n4_; have GE470 := n5_; have NB468_470 := n6_; have NB470_468 := n7_; clear n0_ n1_ n2_ n3_ n4_ n5_ n6_ n7_; clear hb hbox hg; have hnb115 := NB470_468.out; have hnc115 := NB468_470.out; have hcz116_0 : w114.cell? ⟨gb470, 0, none⟩ = some (.int .i64 0) := (blk_cell BK470.out 0).trans rfl; have hcz116_1 : w114.cell? ⟨gb470, 1, none⟩ = some (.int .i64 0) := (blk_cell BK470.out 1).trans rfl; have hcz116_2 : w114.cell? ⟨gb470, 2, none⟩ = some (.string (⟨#[]⟩ : ByteArray)) := (blk_cell BK470.out 2).trans rfl; have hfz116_0 := blk_frozen BK470.out 0; have hfz116_1 := blk_frozen BK470.out 1; have hfz116_2 := blk_frozen BK470.out 2))
               have n0_ : Aside0 (Kd.R k28 28 (((w114.setCell ⟨gb470, 0, none⟩ (.int .i64 ((rd_T28 x4_1 x74_3).f0))).setCell ⟨gb470, 1, none⟩ (.int .i64 ((rd_T28 x4_1 x74_3).f1))).setCell ⟨gb470, 2, none⟩ (.string ((rd_T28 x4_1 x74_3).f2))) w.heap.size (fun k_ => k_ ≠ gb470) (.slice (some ad469) x4_1.length co86) x4_1) := ⟨by (with_reducible repeat (first | apply Kd.R_alloc | apply Kd.R_drewN | apply Kd.R_drew)); exact Kd.R_mono (Kd.R_far (p := ⟨gb470, 2, none⟩) (Kd.R_far (p := ⟨gb470, 1, none⟩) (Kd.R_far (p := ⟨gb470, 0, none⟩) (Kd.R_mono HO_72.out (fun k_ hk => (⟨hk, hk.2⟩ : _ ∧ k_ ≠ gb470))) (fun _ hk => hk.2) (.int .i64 ((rd_T28 x4_1 x74_3).f0))) (fun _ hk => hk.2) (.int .i64 ((rd_T28 x4_1 x74_3).f1))) (fun _ hk => hk.2) (.string ((rd_T28 x4_1 x74_3).f2))) (fun _ hk => hk.1.2)⟩
               have n1_ : Aside0 ((((w114.setCell ⟨gb470, 0, none⟩ (.int .i64 ((rd_T28 x4_1 x74_3).f0))).setCell ⟨gb470, 1, none⟩ (.int .i64 ((rd_T28 x4_1 x74_3).f1))).setCell ⟨gb470, 2, none⟩ (.string ((rd_T28 x4_1 x74_3).f2))).heap[gb470]? = some (.cells #[.int .i64 ((rd_T28 x4_1 x74_3).f0), .int .i64 ((rd_T28 x4_1 x74_3).f1), .string ((rd_T28 x4_1 x74_3).f2)] 28 (0, 0))) := ⟨by (with_reducible repeat (first | refine blk_drewN ?_ _ | refine blk_drew ?_ | refine blk_alloc ?_ _)); refine blk_put (cs := #[.int .i64 ((rd_T28 x4_1 x74_3).f0), .int .i64 ((rd_T28 x4_1 x74_3).f1), .string (⟨#[]⟩ : ByteArray)]) ?_ 2 _ rfl; (with_reducible repeat (first | refine blk_drewN ?_ _ | refine blk_drew ?_ | refine blk_alloc ?_ _)); refine blk_put (cs := #[.int .i64 ((rd_T28 x4_1 x74_3).f0), .int .i64 0, .string (⟨#[]⟩ : ByteArray)]) ?_ 1 _ rfl; (with_reducible repeat (first | refine blk_drewN ?_ _ | refine blk_drew ?_ | refine blk_alloc ?_ _)); refine blk_put (cs := #[.int .i64 0, .int .i64 0, .string (⟨#[]⟩ : ByteArray)]) ?_ 0 _ rfl; (with_reducible repeat (first | refine blk_drewN ?_ _ | refine blk_drew ?_ | refine blk_alloc ?_ _)); exact BK470.out⟩
               have n2_ : Aside0 (IsS62 w (((w114.setCell ⟨gb470, 0, none⟩ (.int .i64 ((rd_T28 x4_1 x74_3).f0))).setCell ⟨gb470, 1, none⟩ (.int .i64 ((rd_T28 x4_1 x74_3).f1))).setCell ⟨gb470, 2, none⟩ (.string ((rd_T28 x4_1 x74_3).f2))) g468 x469000_3 x469001_3 x469002_3 x469003_3) := ⟨by repeat (first | (with_reducible first | exact HI468.out | apply IsS62.alloc | apply IsS62.drewN | apply IsS62.drew | apply IsS62.set_0 | apply IsS62.set_1 | apply IsS62.set_2 | apply IsS62.set_3 | apply IsS62.far (hne := NB468_470.out)) | exact HI468.out)⟩
               have n3_ : Aside0 (Below w.heap.size w (((w114.setCell ⟨gb470, 0, none⟩ (.int .i64 ((rd_T28 x4_1 x74_3).f0))).setCell ⟨gb470, 1, none⟩ (.int .i64 ((rd_T28 x4_1 x74_3).f1))).setCell ⟨gb470, 2, none⟩ (.string ((rd_T28 x4_1 x74_3).f2)))) := ⟨by repeat (first | (with_reducible first | exact HB.out | apply below_alloc | apply pw_below_drewN | apply below_drew1 | refine below_set ?_ (IsS62.ge HI468.out) | refine below_set ?_ GE470.out) | exact HB.out)⟩
               (try clear HO_72)
               (try clear BK470)
               (try clear HI468)
               (try clear HB)
               generalize (((w114.setCell ⟨gb470, 0, none⟩ (.int .i64 ((rd_T28 x4_1 x74_3).f0))).setCell ⟨gb470, 1, none⟩ (.int .i64 ((rd_T28 x4_1 x74_3).f1))).setCell ⟨gb470, 2, none⟩ (.string ((rd_T28 x4_1 x74_3).f2))) = w117 at n0_ n1_ n2_ n3_ ⊢
               have HO_72 := n0_
               have BK470 := n1_
               have HI468 := n2_
               have HB := n3_
               clear n0_ n1_ n2_ n3_
               have n0_ := Aside0.mk (Kd.R_drew HO_72.out)
               have n1_ := Aside0.mk (blk_drew BK470.out)
               have n2_ := Aside0.mk (IsS62.drew HI468.out)
               have n3_ := Aside0.mk (below_drew1 HB.out)
               clear HO_72
               clear BK470
               clear HI468
               clear HB
               have HO_72 := n0_
               have BK470 := n1_
               have HI468 := n2_
               have HB := n3_
               clear n0_ n1_ n2_ n3_
               refine start_ (n := 8) (S := fun w' => w'.cell? ⟨gb470, 0, none⟩ = some (.int .i64 ((rd_T28 x4_1 x74_3).f0)) ∧ w'.cell? ⟨gb470, 1, none⟩ = some (.int .i64 ((rd_T28 x4_1 x74_3).f1)) ∧ w'.cell? ⟨gb470, 2, none⟩ = some (.string ((rd_T28 x4_1 x74_3).f2))) (ds := []) #[ff,ff,ff,ff,ff,ff,ff,ff] (by kernel_rfl) rfl rfl ⟨(blk_cell BK470.out 0).trans rfl, (blk_cell BK470.out 1).trans rfl, (blk_cell BK470.out 2).trans rfl⟩ (fun hHeld => ?_); refine with_tabW scribelaw01_PackBack.tab28 scribelaw01_PackBack.bits28 (fun HT_ HW_ => ?_)
               generalize w117.drew = w118 at HO_72 BK470 HI468 HB hHeld ⊢
               refine pure_ (i := 0) (N := some 89) (v := ?_) (a' := ?_) #[tt,ff,ff,ff,ff,ff,ff,ff] rfl rfl (any_of HT_.out (by kernel_rfl)) (fun _ _ _ h => h) (Or.inl ⟨by rfl, ?_⟩) ?_ ?_
               rotate_left
               ·intro w'
                go_simp
                with_reducible rfl
               rotate_left
               ·simp only [Act.put, setA, setZ, setS, i64_w, i32_w]
                rfl
               refine pure_ (i := 1) (N := some 90) (v := ?_) (a' := ?_) #[tt,tt,ff,ff,ff,ff,ff,ff] rfl rfl (any_of HT_.out (by kernel_rfl)) (fun _ _ _ h => h) (Or.inl ⟨by rfl, ?_⟩) ?_ ?_
               rotate_left
               ·intro w'
                go_simp
                with_reducible rfl
               rotate_left
               ·simp only [Act.put, setA, setZ, setS, i64_w, i32_w]
                rfl
               refine pure_ (i := 5) (N := some 94) (v := ?_) (a' := ?_) #[tt,tt,ff,ff,ff,tt,ff,ff] rfl rfl (any_of HT_.out (by kernel_rfl)) (fun _ _ _ h => h) (Or.inl ⟨by rfl, ?_⟩) ?_ ?_
               rotate_left
               ·intro w'
                go_simp
                with_reducible rfl
               rotate_left
               ·simp only [Act.put, setA, setZ, setS, i64_w, i32_w]
                rfl
               refine take_ (i := 2) (N := some 91) (v := ?_) (a' := ?_) #[tt,tt,tt,ff,ff,tt,ff,ff] rfl rfl (take_ofW HT_.out HW_.out (by kernel_rfl)) (fun _ _ _ h => h) (Or.inl ⟨by rfl, ?_⟩) hHeld ?_ ?_
               rotate_left
               ·rintro w' ⟨s0, s1, s2⟩
                go_simp
                with_reducible rfl
               rotate_left
               ·simp only [Act.put, setA, setZ, setS, i64_w, i32_w]
                rfl
               refine pure_ (i := 3) (N := some 92) (v := ?_) (a' := ?_) #[tt,tt,tt,tt,ff,tt,ff,ff] rfl rfl (any_of HT_.out (by kernel_rfl)) (fun _ _ _ h => h) (Or.inl ⟨by rfl, ?_⟩) ?_ ?_
               rotate_left
               ·intro w'
                go_simp
                with_reducible rfl
               rotate_left
               ·simp only [Act.put, setA, setZ, setS, i64_w, i32_w]
                rfl
               refine take_ (i := 6) (N := some 95) (v := ?_) (a' := ?_) #[tt,tt,tt,tt,ff,tt,tt,ff] rfl rfl (take_ofW HT_.out HW_.out (by kernel_rfl)) (fun _ _ _ h => h) (Or.inl ⟨by rfl, ?_⟩) hHeld ?_ ?_
               rotate_left
               ·rintro w' ⟨s0, s1, s2⟩
                go_simp
                with_reducible rfl
               rotate_left
               ·simp only [Act.put, setA, setZ, setS, i64_w, i32_w]
                rfl
               refine one_ (i := 4) (N := some 93) #[tt,tt,tt,tt,tt,tt,tt,ff] rfl rfl (one_of HT_.out (by kernel_rfl)) (by decide) (fun K hK => ?_)
               refine goes_ Tryd.func20 (by kernel_rfl) rfl #[.pointer (some ⟨g468, 0, none⟩), .int .i64 (((rd_T28 x4_1 x74_3).f2).size : Int)] (by rfl) rfl rfl (by (try simp only [List.map_toArray, List.map_cons, List.map_nil]); first | done | rfl | (simp only [List.length_drop, List.length_take]; rfl)) ?_
               with_reducible refine (pack_Reader_Text.calls k3 g468 x469000_3 x469001_3 x469002_3 x469003_3 (((rd_T28 x4_1 x74_3).f2).size : Int) t476 t477 t478 t479 t480 w _ ?side1 ?side2 ?side3 A106.out).mono ?_
               (case side1 => repeat (first | (with_reducible first | exact HI468.out | apply IsS62.alloc | apply IsS62.drewN | apply IsS62.drew | apply IsS62.set_0 | apply IsS62.set_1 | apply IsS62.set_2 | apply IsS62.set_3 | apply IsS62.far (hne := NB468_470.out)) | exact HI468.out))
               (case side2 => repeat (first | (with_reducible first | exact HB.out | apply below_alloc | apply pw_below_drewN | apply below_drew1 | refine below_set ?_ (IsS62.ge HI468.out) | refine below_set ?_ GE470.out) | exact HB.out))
               (case side3 => exact hT)
               rintro e w119 ⟨rfl, hi, hb, hk⟩
               refine ⟨_, rfl, ?_⟩
               have n0_ := Aside0.mk (Kd.R_mono (Kd.R_keep (IsS62.apart (show IsS62 w _ g468 x469000_3 x469001_3 x469002_3 x469003_3 from by repeat (first | (with_reducible first | exact HI468.out | apply IsS62.alloc | apply IsS62.drewN | apply IsS62.drew | apply IsS62.set_0 | apply IsS62.set_1 | apply IsS62.set_2 | apply IsS62.set_3 | apply IsS62.far (hne := NB468_470.out)) | exact HI468.out)) (by (with_reducible repeat (first | apply Kd.R_alloc | apply Kd.R_drewN | apply Kd.R_drew)); exact HO_72.out) (by decide)) hk (fun _ h => h.2)) (fun _ h => h.1))
               have n1_ := Aside0.mk (KeepBut.blk hk (g' := gb470) (o := .cells #[.int .i64 ((rd_T28 x4_1 x74_3).f0), .int .i64 ((rd_T28 x4_1 x74_3).f1), .string ((rd_T28 x4_1 x74_3).f2)] 28 (0, 0)) (by (with_reducible repeat (first | refine blk_drewN ?_ _ | refine blk_drew ?_ | refine blk_alloc ?_ _)); exact BK470.out) NB470_468.out (by simp))
               have n2_ := Aside0.mk (hb)
               have n3_ := Aside0.mk (hi)
               clear HO_72
               clear BK470
               clear HB
               clear HI468
               have HO_72 := n0_
               have BK470 := n1_
               have HB := n2_
               have HI468 := n3_
               clear n0_ n1_ n2_ n3_
               (try clear hb)
               (try clear hb2)
               (try clear hk)
               (try clear hi)
               refine hK.out _ _ ⟨(blk_cell BK470.out 0).trans rfl, (blk_cell BK470.out 1).trans rfl, (blk_cell BK470.out 2).trans rfl⟩ (fun hHeld => ?_)
               clear hK K
               refine norm_ (a' := ?_) ?_ ?_
               rotate_left
               ·show Act.put _ (some 93) _ = _
                simp only [Act.put, setA, setZ, setS, i64_w, i32_w]
                rfl
               refine pure_ (i := 7) (N := some 96) (v := ?_) (a' := ?_) #[tt,tt,tt,tt,tt,tt,tt,tt] rfl rfl (any_of HT_.out (by kernel_rfl)) (fun _ _ _ h => h) (Or.inl ⟨by rfl, ?_⟩) ?_ ?_
               rotate_left
               ·intro w'
                go_simp
                with_reducible rfl
               rotate_left
               ·simp only [Act.put, setA, setZ, setS, i64_w, i32_w]
                rfl
               refine done_ (done_of HT_.out (by kernel_rfl)) ?_
               try go_wp2
               go_ret
               exact ⟨by first | rfl | (simp [errW_none, errW_some] <;> rfl) | (simp [errW_none, errW_some] <;> first | rfl | exact isEmpty_bne _) | (simp [*, errW_none, errW_some] <;> rfl), by repeat (first | (with_reducible first | exact HB.out | apply below_alloc | apply pw_below_drewN | apply below_drew1 | refine below_set ?_ (IsS62.ge HI468.out) | refine below_set ?_ GE470.out) | exact HB.out)⟩
             ·rw [if_neg c105] at H
              have c105b0 : (((rd_T28 x4_1 x74_3).f0) == 2) = false := beq_eq_false_iff_ne.mpr c105
              have c105b1 : (((rd_T28 x4_1 x74_3).f0) != 2) = true := bne_iff_ne.mpr c105
              by_cases c120 : ((rd_T28 x4_1 x74_3).f0) = 3
              ·rw [if_pos c120] at H
               have c120b0 : (((rd_T28 x4_1 x74_3).f0) == 3) = true := beq_iff_eq.mpr c120
               have c120b1 : (((rd_T28 x4_1 x74_3).f0) != 3) = false := bne_eq_false_iff_eq.mpr c120
               clear c120
               replace H := Option.bind_eq_some_iff.mp H
               obtain ⟨⟨t481, t482, t483, t484⟩, A1210, H⟩ := H
               replace H : (scribelaw01_PackBack.l2 k3 x5_1 x4_1 (x4_1.length : Int) (wrap64 (x74_3 + 1)) t481 t482 t483 t484) = some r := H
               have A121 := Aside0.mk A1210
               clear A1210
               have H' := Aside0.mk H
               clear H
               have p469 : 0 ≤ (x74_3 : Int) := of_decide_eq_true (by first | (with_reducible assumption) | assumption)
               have q469 : x74_3 < (x4_1.length : Int) := of_decide_eq_true (by first | (with_reducible assumption) | assumption)
               obtain ⟨ad469, e469, hx469_0, hx469_1, hx469_2⟩ := at_T28 (Kd.R_reads' HO_72.out).2.2 x74_3 p469 q469
               cases e469
               replace p469 := eq_true p469
               replace q469 := eq_true q469
               go_wp2_with (first | ((with_reducible refine gate_dst (N := 11) rfl ?_); refine box_event ?hg (N := 11) ?hd (cs := #[.int .i64 0, .int .i64 0, .string (⟨#[]⟩ : ByteArray)]) (t := 28) ?hr ?_; (case hd => rfl); (case hg => rfl); (case hr => first | (go_simp; done) | (go_simp; rfl)); intro gb470 hg w122 hbox hb; have n0_ := Aside0.mk (Kd.R_below (Kd.R_elderB (by (with_reducible repeat (first | apply Kd.R_alloc | apply Kd.R_drewN | apply Kd.R_drew)); exact HO_72.out) gb470 (Nat.le_of_eq hg.symm)) hb); have n1_ := Aside0.mk (IsS62.below (by repeat (first | (with_reducible first | exact HI468.out | apply IsS62.alloc | apply IsS62.drewN | apply IsS62.drew | apply IsS62.set_0 | apply IsS62.set_1 | apply IsS62.set_2 | apply IsS62.set_3) | exact HI468.out)) hb); have n2_ := Aside0.mk (below_step (by repeat (first | (with_reducible first | exact HB.out | apply below_alloc | apply pw_below_drewN | apply below_drew1 | refine below_set ?_ (IsS62.ge HI468.out)) | exact HB.out)) hb); have n3_ := Aside0.mk (hbox); have n4_ := Aside0.mk ((by rw [hg]; exact (below_size (by repeat (first | (with_reducible first | exact HB.out | apply below_alloc | apply pw_below_drewN | apply below_drew1 | refine below_set ?_ (IsS62.ge HI468.out)) | exact HB.out))) : w.heap.size ≤ gb470)); have n5_ := Aside0.mk ((by rw [hg]; exact (below_size (by repeat (first | (with_reducible first | exact HB.out | apply below_alloc | apply pw_below_drewN | apply below_drew1 | refine below_set ?_ (IsS62.ge HI468.out)) | exact HB.out))) : w.heap.size ≤ gb470)); have n6_ := Aside0.mk ((by rw [hg]; exact Nat.ne_of_lt (IsS62.lt (show IsS62 w _ g468 x469000_3 x469001_3 x469002_3 x469003_3 from by repeat (first | (with_reducible first | exact HI468.out | apply IsS62.alloc | apply IsS62.drewN | apply IsS62.drew | apply IsS62.set_0 | apply IsS62.set_1 | apply IsS62.set_2 | apply IsS62.set_3) | exact HI468.out))) : g468 ≠ gb470)); have n7_ := Aside0.mk ((by rw [hg]; exact Nat.ne_of_gt (IsS62.lt (show IsS62 w _ g468 x469000_3 x469001_3 x469002_3 x469003_3 from by repeat (first | (with_reducible first | exact HI468.out | apply IsS62.alloc | apply IsS62.drewN | apply IsS62.drew | apply IsS62.set_0 | apply IsS62.set_1 | apply IsS62.set_2 | apply IsS62.set_3) | exact HI468.out))) : gb470 ≠ g468)); clear HO_72; clear HI468; clear HB; have HO_72 := n0_; have HI468 := n1_; have HB := n2_; have BK470 := n3_; have GW470 := n4_; have GE470 := n5_; have NB468_470 := n6_; have NB470_468 := n7_; clear n0_ n1_ n2_ n3_ n4_ n5_ n6_ n7_; clear hb hbox hg; have hnb123 := NB470_468.out; have hnc123 := NB468_470.out; have hcz124_0 : w122.cell? ⟨gb470, 0, none⟩ = some (.int .i64 0) := (blk_cell BK470.out 0).trans rfl; have hcz124_1 : w122.cell? ⟨gb470, 1, none⟩ = some (.int .i64 0) := (blk_cell BK470.out 1).trans rfl; have hcz124_2 : w122.cell? ⟨gb470, 2, none⟩ = some (.string (⟨#[]⟩ : ByteArray)) := (blk_cell BK470.out 2).trans rfl; have hfz124_0 := blk_frozen BK470.out 0; have hfz124_1 := blk_frozen BK470.out 1; have hfz124_2 := blk_frozen BK470.out 2) | ((with_reducible refine gate_callee (f := 23) rfl ?_); refine goesL_ (some 100) rfl rfl Tryd.func23 (by kernel_rfl) rfl #[.pointer (some ⟨g468, 0, none⟩)] rfl (by (try simp only [List.map_toArray, List.map_cons, List.map_nil]); first | done | rfl | (simp only [List.length_drop, List.length_take]; rfl)) ?_; (with_reducible refine (pack_Reader_Open.calls k3 g468 x469000_3 x469001_3 x469002_3 x469003_3 t481 t482 t483 t484 w _ ?side1 ?side2 ?side3 A121.out).mono ?_); (case side1 => repeat (first | (with_reducible first | exact HI468.out | apply IsS62.alloc | apply IsS62.drewN | apply IsS62.drew | apply IsS62.set_0 | apply IsS62.set_1 | apply IsS62.set_2 | apply IsS62.set_3 | apply IsS62.far (hne := NB468_470.out)) | exact HI468.out)); (case side2 => repeat (first | (with_reducible first | exact HB.out | apply below_alloc | apply pw_below_drewN | apply below_drew1 | refine below_set ?_ (IsS62.ge HI468.out) | refine below_set ?_ GE470.out) | exact HB.out)); (case side3 => exact hT); rintro e w125 ⟨rfl, hi, hb, hk⟩; refine ⟨_, rfl, ?_⟩; have n0_ := Aside0.mk (Kd.R_mono (Kd.R_keep (IsS62.apart (show IsS62 w _ g468 x469000_3 x469001_3 x469002_3 x469003_3 from by repeat (first | (with_reducible first | exact HI468.out | apply IsS62.alloc | apply IsS62.drewN | apply IsS62.drew | apply IsS62.set_0 | apply IsS62.set_1 | apply IsS62.set_2 | apply IsS62.set_3 | apply IsS62.far (hne := NB468_470.out)) | exact HI468.out)) (by (with_reducible repeat (first | apply Kd.R_alloc | apply Kd.R_drewN | apply Kd.R_drew)); exact (Kd.R_mono (Kd.R_far (p := ⟨gb470, 2, none⟩) (Kd.R_far (p := ⟨gb470, 1, none⟩) (Kd.R_far (p := ⟨gb470, 0, none⟩) (Kd.R_mono HO_72.out (fun k_ hk => (⟨hk, hk.2⟩ : _ ∧ k_ ≠ gb470))) (fun _ hk => hk.2) (.int .i64 ((rd_T28 x4_1 x74_3).f0))) (fun _ hk => hk.2) (.int .i64 ((rd_T28 x4_1 x74_3).f1))) (fun _ hk => hk.2) (.string ((rd_T28 x4_1 x74_3).f2))) (fun _ h_ => h_.1))) (by decide)) hk (fun _ h => h.2)) (fun _ h => h.1)); have n1_ := Aside0.mk (KeepBut.blk hk (g' := gb470) (o := .cells #[.int .i64 ((rd_T28 x4_1 x74_3).f0), .int .i64 ((rd_T28 x4_1 x74_3).f1), .string ((rd_T28 x4_1 x74_3).f2)] 28 (0, 0)) (by (with_reducible repeat (first | refine blk_drewN ?_ _ | refine blk_drew ?_ | refine blk_alloc ?_ _)); refine blk_put (cs := #[.int .i64 ((rd_T28 x4_1 x74_3).f0), .int .i64 ((rd_T28 x4_1 x74_3).f1), .string (⟨#[]⟩ : ByteArray)]) ?_ 2 _ rfl; (with_reducible repeat (first | refine blk_drewN ?_ _ | refine blk_drew ?_ | refine blk_alloc ?_ _)); refine blk_put (cs := #[.int .i64 ((rd_T28 x4_1 x74_3).f0), .int .i64 0, .string (⟨#[]⟩ : ByteArray)]) ?_ 1 _ rfl; (with_reducible repeat (first | refine blk_drewN ?_ _ | refine blk_drew ?_ | refine blk_alloc ?_ _)); refine blk_put (cs := #[.int .i64 0, .int .i64 0, .string (⟨#[]⟩ : ByteArray)]) ?_ 0 _ rfl; (with_reducible repeat (first | refine blk_drewN ?_ _ | refine blk_drew ?_ | refine blk_alloc ?_ _)); exact BK470.out) NB470_468.out (by simp)); have n2_ := Aside0.mk (hb); have n3_ := Aside0.mk (hi); clear HO_72; clear BK470; clear HB; clear HI468; have HO_72 := n0_; have BK470 := n1_; have HB := n2_; have HI468 := n3_; clear n0_ n1_ n2_ n3_; (try clear hb); (try clear hb2); (try clear hk); (try clear hi)))
               go_roundg k3
               case measure => have := HK1.out; have := HK2.out; have := HK3.out; omega
               case rel => exact ⟨(wrap64 (x74_3 + 1)), (t481), (t482), (t483), (t484), (by first | rfl | (simp; done) | (simp [*]; done) | (simp; unfold wrap64; omega)), H', ⟨by have := HK1.out; have := HK2.out; have := HK3.out; omega⟩, ⟨by (with_reducible repeat (first | apply Kd.R_alloc | apply Kd.R_drewN | apply Kd.R_drew)); exact Kd.R_mono HO_72.out (fun _ hk => trivial)⟩, ⟨by repeat (first | (with_reducible first | exact HI468.out | apply IsS62.alloc | apply IsS62.drewN | apply IsS62.drew | apply IsS62.set_0 | apply IsS62.set_1 | apply IsS62.set_2 | apply IsS62.set_3 | apply IsS62.far (hne := NB468_470.out)) | exact HI468.out)⟩, ⟨by repeat (first | (with_reducible first | exact HB.out | apply below_alloc | apply pw_below_drewN | apply below_drew1 | refine below_set ?_ (IsS62.ge HI468.out) | refine below_set ?_ GE470.out) | exact HB.out)⟩⟩
              ·rw [if_neg c120] at H
               have c120b0 : (((rd_T28 x4_1 x74_3).f0) == 3) = false := beq_eq_false_iff_ne.mpr c120
               have c120b1 : (((rd_T28 x4_1 x74_3).f0) != 3) = true := bne_iff_ne.mpr c120
               by_cases c126 : ((rd_T28 x4_1 x74_3).f0) = 4
               ·rw [if_pos c126] at H
                have c126b0 : (((rd_T28 x4_1 x74_3).f0) == 4) = true := beq_iff_eq.mpr c126
                have c126b1 : (((rd_T28 x4_1 x74_3).f0) != 4) = false := bne_eq_false_iff_eq.mpr c126
                clear c126
                replace H := Option.bind_eq_some_iff.mp H
                obtain ⟨⟨t485, t486, t487, t488⟩, A1270, H⟩ := H
                replace H : (scribelaw01_PackBack.l2 k3 x5_1 x4_1 (x4_1.length : Int) (wrap64 (x74_3 + 1)) t485 t486 t487 t488) = some r := H
                have A127 := Aside0.mk A1270
                clear A1270
                have H' := Aside0.mk H
                clear H
                have p469 : 0 ≤ (x74_3 : Int) := of_decide_eq_true (by first | (with_reducible assumption) | assumption)
                have q469 : x74_3 < (x4_1.length : Int) := of_decide_eq_true (by first | (with_reducible assumption) | assumption)
                obtain ⟨ad469, e469, hx469_0, hx469_1, hx469_2⟩ := at_T28 (Kd.R_reads' HO_72.out).2.2 x74_3 p469 q469
                cases e469
                replace p469 := eq_true p469
                replace q469 := eq_true q469
                go_wp2_with (first | ((with_reducible refine gate_dst (N := 11) rfl ?_); refine box_event ?hg (N := 11) ?hd (cs := #[.int .i64 0, .int .i64 0, .string (⟨#[]⟩ : ByteArray)]) (t := 28) ?hr ?_; (case hd => rfl); (case hg => rfl); (case hr => first | (go_simp; done) | (go_simp; rfl)); intro gb470 hg w128 hbox hb; have n0_ := Aside0.mk (Kd.R_below (Kd.R_elderB (by (with_reducible repeat (first | apply Kd.R_alloc | apply Kd.R_drewN | apply Kd.R_drew)); exact HO_72.out) gb470 (Nat.le_of_eq hg.symm)) hb); have n1_ := Aside0.mk (IsS62.below (by repeat (first | (with_reducible first | exact HI468.out | apply IsS62.alloc | apply IsS62.drewN | apply IsS62.drew | apply IsS62.set_0 | apply IsS62.set_1 | apply IsS62.set_2 | apply IsS62.set_3) | exact HI468.out)) hb); have n2_ := Aside0.mk (below_step (by repeat (first | (with_reducible first | exact HB.out | apply below_alloc | apply pw_below_drewN | apply below_drew1 | refine below_set ?_ (IsS62.ge HI468.out)) | exact HB.out)) hb); have n3_ := Aside0.mk (hbox); have n4_ := Aside0.mk ((by rw [hg]; exact (below_size (by repeat (first | (with_reducible first | exact HB.out | apply below_alloc | apply pw_below_drewN | apply below_drew1 | refine below_set ?_ (IsS62.ge HI468.out)) | exact HB.out))) : w.heap.size ≤ gb470)); have n5_ := Aside0.mk ((by rw [hg]; exact (below_size (by repeat (first | (with_reducible first | exact HB.out | apply below_alloc | apply pw_below_drewN | apply below_drew1 | refine below_set ?_ (IsS62.ge HI468.out)) | exact HB.out))) : w.heap.size ≤ gb470)); have n6_ := Aside0.mk ((by rw [hg]; exact Nat.ne_of_lt (IsS62.lt (show IsS62 w _ g468 x469000_3 x469001_3 x469002_3 x469003_3 from by repeat (first | (with_reducible first | exact HI468.out | apply IsS62.alloc | apply IsS62.drewN | apply IsS62.drew | apply IsS62.set_0 | apply IsS62.set_1 | apply IsS62.set_2 | apply IsS62.set_3) | exact HI468.out))) : g468 ≠ gb470)); have n7_ := Aside0.mk ((by rw [hg]; exact Nat.ne_of_gt (IsS62.lt (show IsS62 w _ g468 x469000_3 x469001_3 x469002_3 x469003_3 from by repeat (first | (with_reducible first | exact HI468.out | apply IsS62.alloc | apply IsS62.drewN | apply IsS62.drew | apply IsS62.set_0 | apply IsS62.set_1 | apply IsS62.set_2 | apply IsS62.set_3) | exact HI468.out))) : gb470 ≠ g468)); clear HO_72; clear HI468; clear HB; have HO_72 := n0_; have HI468 := n1_; have HB := n2_; have BK470 := n3_; have GW470 := n4_; have GE470 := n5_; have NB468_470 := n6_; have NB470_468 := n7_; clear n0_ n1_ n2_ n3_ n4_ n5_ n6_ n7_; clear hb hbox hg; have hnb129 := NB470_468.out; have hnc129 := NB468_470.out; have hcz130_0 : w128.cell? ⟨gb470, 0, none⟩ = some (.int .i64 0) := (blk_cell BK470.out 0).trans rfl; have hcz130_1 : w128.cell? ⟨gb470, 1, none⟩ = some (.int .i64 0) := (blk_cell BK470.out 1).trans rfl; have hcz130_2 : w128.cell? ⟨gb470, 2, none⟩ = some (.string (⟨#[]⟩ : ByteArray)) := (blk_cell BK470.out 2).trans rfl; have hfz130_0 := blk_frozen BK470.out 0; have hfz130_1 := blk_frozen BK470.out 1; have hfz130_2 := blk_frozen BK470.out 2) | ((with_reducible refine gate_callee (f := 24) rfl ?_); refine goesL_ (some 104) rfl rfl Tryd.func24 (by kernel_rfl) rfl #[.pointer (some ⟨g468, 0, none⟩)] rfl (by (try simp only [List.map_toArray, List.map_cons, List.map_nil]); first | done | rfl | (simp only [List.length_drop, List.length_take]; rfl)) ?_; (with_reducible refine (pack_Reader_Close.calls k3 g468 x469000_3 x469001_3 x469002_3 x469003_3 t485 t486 t487 t488 w _ ?side1 ?side2 ?side3 A127.out).mono ?_); (case side1 => repeat (first | (with_reducible first | exact HI468.out | apply IsS62.alloc | apply IsS62.drewN | apply IsS62.drew | apply IsS62.set_0 | apply IsS62.set_1 | apply IsS62.set_2 | apply IsS62.set_3 | apply IsS62.far (hne := NB468_470.out)) | exact HI468.out)); (case side2 => repeat (first | (with_reducible first | exact HB.out | apply below_alloc | apply pw_below_drewN | apply below_drew1 | refine below_set ?_ (IsS62.ge HI468.out) | refine below_set ?_ GE470.out) | exact HB.out)); (case side3 => exact hT); rintro e w131 ⟨rfl, hi, hb, hk⟩; refine ⟨_, rfl, ?_⟩; have n0_ := Aside0.mk (Kd.R_mono (Kd.R_keep (IsS62.apart (show IsS62 w _ g468 x469000_3 x469001_3 x469002_3 x469003_3 from by repeat (first | (with_reducible first | exact HI468.out | apply IsS62.alloc | apply IsS62.drewN | apply IsS62.drew | apply IsS62.set_0 | apply IsS62.set_1 | apply IsS62.set_2 | apply IsS62.set_3 | apply IsS62.far (hne := NB468_470.out)) | exact HI468.out)) (by (with_reducible repeat (first | apply Kd.R_alloc | apply Kd.R_drewN | apply Kd.R_drew)); exact (Kd.R_mono (Kd.R_far (p := ⟨gb470, 2, none⟩) (Kd.R_far (p := ⟨gb470, 1, none⟩) (Kd.R_far (p := ⟨gb470, 0, none⟩) (Kd.R_mono HO_72.out (fun k_ hk => (⟨hk, hk.2⟩ : _ ∧ k_ ≠ gb470))) (fun _ hk => hk.2) (.int .i64 ((rd_T28 x4_1 x74_3).f0))) (fun _ hk => hk.2) (.int .i64 ((rd_T28 x4_1 x74_3).f1))) (fun _ hk => hk.2) (.string ((rd_T28 x4_1 x74_3).f2))) (fun _ h_ => h_.1))) (by decide)) hk (fun _ h => h.2)) (fun _ h => h.1)); have n1_ := Aside0.mk (KeepBut.blk hk (g' := gb470) (o := .cells #[.int .i64 ((rd_T28 x4_1 x74_3).f0), .int .i64 ((rd_T28 x4_1 x74_3).f1), .string ((rd_T28 x4_1 x74_3).f2)] 28 (0, 0)) (by (with_reducible repeat (first | refine blk_drewN ?_ _ | refine blk_drew ?_ | refine blk_alloc ?_ _)); refine blk_put (cs := #[.int .i64 ((rd_T28 x4_1 x74_3).f0), .int .i64 ((rd_T28 x4_1 x74_3).f1), .string (⟨#[]⟩ : ByteArray)]) ?_ 2 _ rfl; (with_reducible repeat (first | refine blk_drewN ?_ _ | refine blk_drew ?_ | refine blk_alloc ?_ _)); refine blk_put (cs := #[.int .i64 ((rd_T28 x4_1 x74_3).f0), .int .i64 0, .string (⟨#[]⟩ : ByteArray)]) ?_ 1 _ rfl; (with_reducible repeat (first | refine blk_drewN ?_ _ | refine blk_drew ?_ | refine blk_alloc ?_ _)); refine blk_put (cs := #[.int .i64 0, .int .i64 0, .string (⟨#[]⟩ : ByteArray)]) ?_ 0 _ rfl; (with_reducible repeat (first | refine blk_drewN ?_ _ | refine blk_drew ?_ | refine blk_alloc ?_ _)); exact BK470.out) NB470_468.out (by simp)); have n2_ := Aside0.mk (hb); have n3_ := Aside0.mk (hi); clear HO_72; clear BK470; clear HB; clear HI468; have HO_72 := n0_; have BK470 := n1_; have HB := n2_; have HI468 := n3_; clear n0_ n1_ n2_ n3_; (try clear hb); (try clear hb2); (try clear hk); (try clear hi)))
                go_roundg k3
                case measure => have := HK1.out; have := HK2.out; have := HK3.out; omega
                case rel => exact ⟨(wrap64 (x74_3 + 1)), (t485), (t486), (t487), (t488), (by first | rfl | (simp; done) | (simp [*]; done) | (simp; unfold wrap64; omega)), H', ⟨by have := HK1.out; have := HK2.out; have := HK3.out; omega⟩, ⟨by (with_reducible repeat (first | apply Kd.R_alloc | apply Kd.R_drewN | apply Kd.R_drew)); exact Kd.R_mono HO_72.out (fun _ hk => trivial)⟩, ⟨by repeat (first | (with_reducible first | exact HI468.out | apply IsS62.alloc | apply IsS62.drewN | apply IsS62.drew | apply IsS62.set_0 | apply IsS62.set_1 | apply IsS62.set_2 | apply IsS62.set_3 | apply IsS62.far (hne := NB468_470.out)) | exact HI468.out)⟩, ⟨by repeat (first | (with_reducible first | exact HB.out | apply below_alloc | apply pw_below_drewN | apply below_drew1 | refine below_set ?_ (IsS62.ge HI468.out) | refine below_set ?_ GE470.out) | exact HB.out)⟩⟩
               ·rw [if_neg c126] at H
                have c126b0 : (((rd_T28 x4_1 x74_3).f0) == 4) = false := beq_eq_false_iff_ne.mpr c126
                have c126b1 : (((rd_T28 x4_1 x74_3).f0) != 4) = true := bne_iff_ne.mpr c126
                have H' := Aside0.mk H
                clear H
                have p469 : 0 ≤ (x74_3 : Int) := of_decide_eq_true (by first | (with_reducible assumption) | assumption)
                have q469 : x74_3 < (x4_1.length : Int) := of_decide_eq_true (by first | (with_reducible assumption) | assumption)
                obtain ⟨ad469, e469, hx469_0, hx469_1, hx469_2⟩ := at_T28 (Kd.R_reads' HO_72.out).2.2 x74_3 p469 q469
                cases e469
                replace p469 := eq_true p469
                replace q469 := eq_true q469
                go_wp2_with (first | ((with_reducible refine gate_dst (N := 11) rfl ?_); refine box_event ?hg (N := 11) ?hd (cs := #[.int .i64 0, .int .i64 0, .string (⟨#[]⟩ : ByteArray)]) (t := 28) ?hr ?_; (case hd => rfl); (case hg => rfl); (case hr => first | (go_simp; done) | (go_simp; rfl)); intro gb470 hg w132 hbox hb; have n0_ := Aside0.mk (Kd.R_below (Kd.R_elderB (by (with_reducible repeat (first | apply Kd.R_alloc | apply Kd.R_drewN | apply Kd.R_drew)); exact HO_72.out) gb470 (Nat.le_of_eq hg.symm)) hb); have n1_ := Aside0.mk (IsS62.below (by repeat (first | (with_reducible first | exact HI468.out | apply IsS62.alloc | apply IsS62.drewN | apply IsS62.drew | apply IsS62.set_0 | apply IsS62.set_1 | apply IsS62.set_2 | apply IsS62.set_3) | exact HI468.out)) hb); have n2_ := Aside0.mk (below_step (by repeat (first | (with_reducible first | exact HB.out | apply below_alloc | apply pw_below_drewN | apply below_drew1 | refine below_set ?_ (IsS62.ge HI468.out)) | exact HB.out)) hb); have n3_ := Aside0.mk (hbox); have n4_ := Aside0.mk ((by rw [hg]; exact (below_size (by repeat (first | (with_reducible first | exact HB.out | apply below_alloc | apply pw_below_drewN | apply below_drew1 | refine below_set ?_ (IsS62.ge HI468.out)) | exact HB.out))) : w.heap.size ≤ gb470)); have n5_ := Aside0.mk ((by rw [hg]; exact (below_size (by repeat (first | (with_reducible first | exact HB.out | apply below_alloc | apply pw_below_drewN | apply below_drew1 | refine below_set ?_ (IsS62.ge HI468.out)) | exact HB.out))) : w.heap.size ≤ gb470)); have n6_ := Aside0.mk ((by rw [hg]; exact Nat.ne_of_lt (IsS62.lt (show IsS62 w _ g468 x469000_3 x469001_3 x469002_3 x469003_3 from by repeat (first | (with_reducible first | exact HI468.out | apply IsS62.alloc | apply IsS62.drewN | apply IsS62.drew | apply IsS62.set_0 | apply IsS62.set_1 | apply IsS62.set_2 | apply IsS62.set_3) | exact HI468.out))) : g468 ≠ gb470)); have n7_ := Aside0.mk ((by rw [hg]; exact Nat.ne_of_gt (IsS62.lt (show IsS62 w _ g468 x469000_3 x469001_3 x469002_3 x469003_3 from by repeat (first | (with_reducible first | exact HI468.out | apply IsS62.alloc | apply IsS62.drewN | apply IsS62.drew | apply IsS62.set_0 | apply IsS62.set_1 | apply IsS62.set_2 | apply IsS62.set_3) | exact HI468.out))) : gb470 ≠ g468)); clear HO_72; clear HI468; clear HB; have HO_72 := n0_; have HI468 := n1_; have HB := n2_; have BK470 := n3_; have GW470 := n4_; have GE470 := n5_; have NB468_470 := n6_; have NB470_468 := n7_; clear n0_ n1_ n2_ n3_ n4_ n5_ n6_ n7_; clear hb hbox hg; have hnb133 := NB470_468.out; have hnc133 := NB468_470.out; have hcz134_0 : w132.cell? ⟨gb470, 0, none⟩ = some (.int .i64 0) := (blk_cell BK470.out 0).trans rfl; have hcz134_1 : w132.cell? ⟨gb470, 1, none⟩ = some (.int .i64 0) := (blk_cell BK470.out 1).trans rfl; have hcz134_2 : w132.cell? ⟨gb470, 2, none⟩ = some (.string (⟨#[]⟩ : ByteArray)) := (blk_cell BK470.out 2).trans rfl; have hfz134_0 := blk_frozen BK470.out 0; have hfz134_1 := blk_frozen BK470.out 1; have hfz134_2 := blk_frozen BK470.out 2))
                go_roundg k3
                case measure => have := HK1.out; have := HK2.out; have := HK3.out; omega
                case rel => exact ⟨(wrap64 (x74_3 + 1)), (x469000_3), (x469001_3), (x469002_3), (x469003_3), (by first | rfl | (simp; done) | (simp [*]; done) | (simp; unfold wrap64; omega)), H', ⟨by have := HK1.out; have := HK2.out; have := HK3.out; omega⟩, ⟨by (with_reducible repeat (first | apply Kd.R_alloc | apply Kd.R_drewN | apply Kd.R_drew)); exact Kd.R_mono (Kd.R_far (p := ⟨gb470, 2, none⟩) (Kd.R_far (p := ⟨gb470, 1, none⟩) (Kd.R_far (p := ⟨gb470, 0, none⟩) (Kd.R_mono HO_72.out (fun k_ hk => (⟨hk, hk.2⟩ : _ ∧ k_ ≠ gb470))) (fun _ hk => hk.2) (.int .i64 ((rd_T28 x4_1 x74_3).f0))) (fun _ hk => hk.2) (.int .i64 ((rd_T28 x4_1 x74_3).f1))) (fun _ hk => hk.2) (.string ((rd_T28 x4_1 x74_3).f2))) (fun _ hk => trivial)⟩, ⟨by repeat (first | (with_reducible first | exact HI468.out | apply IsS62.alloc | apply IsS62.drewN | apply IsS62.drew | apply IsS62.set_0 | apply IsS62.set_1 | apply IsS62.set_2 | apply IsS62.set_3 | apply IsS62.far (hne := NB468_470.out)) | exact HI468.out)⟩, ⟨by repeat (first | (with_reducible first | exact HB.out | apply below_alloc | apply pw_below_drewN | apply below_drew1 | refine below_set ?_ (IsS62.ge HI468.out) | refine below_set ?_ GE470.out) | exact HB.out)⟩⟩
           ·rw [if_neg c89] at H
            exact absurd H (by simp)
          ·rw [if_neg c88] at H
           exact absurd H (by simp)
         ·rw [if_neg c87] at H
          have c87b0 : decide (x74_3 < (x4_1.length : Int)) = false := decide_eq_false c87
          clear c87
          have H' := Aside0.mk H
          clear H
          go_wp2
          go_loopg [12] k3 (fun kq v12 w' => ∃ (x12_4 : Int) (x469000_4 : ByteArray) (x469001_4 : Int) (x469002_4 : Int) (x469003_4 : Int), v12 = .int .i64 x12_4 ∧ Aside0 (scribelaw01_PackBack.l3 kq x5_1 x12_4 x469000_4 x469001_4 x469002_4 x469003_4 = some r) ∧ Aside0 (kq ≤ k3) ∧ Aside0 (IsS62 w w' g468 x469000_4 x469001_4 x469002_4 x469003_4) ∧ Aside0 (Below w.heap.size w w'))
          case atStart => exact ⟨(0), (x469000_3), (x469001_3), (x469002_3), (x469003_3), (by first | rfl | (simp; done) | (simp [*]; done) | (simp; unfold wrap64; omega)), H', ⟨Nat.le_refl _⟩, ⟨by repeat (first | (with_reducible first | exact HI468.out | apply IsS62.alloc | apply IsS62.drewN | apply IsS62.drew | apply IsS62.set_0 | apply IsS62.set_1 | apply IsS62.set_2 | apply IsS62.set_3) | exact HI468.out)⟩, ⟨by repeat (first | (with_reducible first | exact HB.out | apply below_alloc | apply pw_below_drewN | apply below_drew1 | refine below_set ?_ (IsS62.ge HI468.out)) | exact HB.out)⟩⟩
          case round =>
           clear H'
           try clear c1
           try clear c2
           try clear p2
           try clear p4
           try clear q4
           try clear hx4
           try clear p6
           try clear c8
           try clear c9
           try clear c10
           try clear c11
           try clear c12
           try clear c13
           try clear c17
           try clear c20
           try clear c23
           try clear c24
           try clear p46
           try clear q46
           try clear hx46
           try clear p64
           try clear c87
           try clear c87b0
           try clear c88
           try clear c88b0
           try clear c89
           try clear c89b0
           try clear c90
           try clear c90b0
           try clear c90b1
           try clear c92
           try clear c92b0
           try clear c92b1
           try clear c94
           try clear c100
           try clear c105
           try clear c105b0
           try clear c105b1
           try clear c107
           try clear c107b0
           try clear c107b1
           try clear c109
           try clear c115
           try clear c120
           try clear c120b0
           try clear c120b1
           try clear c123
           try clear c126
           try clear c126b0
           try clear c126b1
           try clear c129
           try clear c133
           try clear hcz101_0
           try clear hcz101_1
           try clear hcz101_2
           try clear hcz110_0
           try clear hcz110_1
           try clear hcz110_2
           try clear hcz116_0
           try clear hcz116_1
           try clear hcz116_2
           try clear hcz124_0
           try clear hcz124_1
           try clear hcz124_2
           try clear hcz130_0
           try clear hcz130_1
           try clear hcz130_2
           try clear hcz134_0
           try clear hcz134_1
           try clear hcz134_2
           try clear hcz95_0
           try clear hcz95_1
           try clear hcz95_2
           try clear hfz101_0
           try clear hfz101_1
           try clear hfz101_2
           try clear hfz110_0
           try clear hfz110_1
           try clear hfz110_2
           try clear hfz116_0
           try clear hfz116_1
           try clear hfz116_2
           try clear hfz124_0
           try clear hfz124_1
           try clear hfz124_2
           try clear hfz130_0
           try clear hfz130_1
           try clear hfz130_2
           try clear hfz134_0
           try clear hfz134_1
           try clear hfz134_2
           try clear hfz95_0
           try clear hfz95_1
           try clear hfz95_2
           try clear hx469_0
           try clear hx469_1
           try clear hx469_2
           try clear p469
           try clear q469
           obtain ⟨x12_4, x469000_4, x469001_4, x469002_4, x469003_4, rfl, HA, HK4, HI468, HB⟩ := hrel
           cases gk with
           | zero => exact absurd HA.out (by simp [scribelaw01_PackBack.l3])
           | succ k4 =>
            have H := HA.out
            clear HA
            simp only [scribelaw01_PackBack.l3] at H
            by_cases c135 : x12_4 < x5_1
            ·rw [if_pos c135] at H
             have c135b0 : decide (x12_4 < x5_1) = true := decide_eq_true c135
             clear c135
             replace H := Option.bind_eq_some_iff.mp H
             obtain ⟨⟨t489, t490, t491, t492⟩, A1360, H⟩ := H
             replace H : (scribelaw01_PackBack.l3 k4 x5_1 (wrap64 (x12_4 + 1)) t489 t490 t491 t492) = some r := H
             have A136 := Aside0.mk A1360
             clear A1360
             have H' := Aside0.mk H
             clear H
             go_wp2_with (first | ((with_reducible refine gate_callee (f := 24) rfl ?_); refine goesL_ (some 112) rfl rfl Tryd.func24 (by kernel_rfl) rfl #[.pointer (some ⟨g468, 0, none⟩)] rfl (by (try simp only [List.map_toArray, List.map_cons, List.map_nil]); first | done | rfl | (simp only [List.length_drop, List.length_take]; rfl)) ?_; (with_reducible refine (pack_Reader_Close.calls k4 g468 x469000_4 x469001_4 x469002_4 x469003_4 t489 t490 t491 t492 w _ ?side1 ?side2 ?side3 A136.out).mono ?_); (case side1 => repeat (first | (with_reducible first | exact HI468.out | apply IsS62.alloc | apply IsS62.drewN | apply IsS62.drew | apply IsS62.set_0 | apply IsS62.set_1 | apply IsS62.set_2 | apply IsS62.set_3) | exact HI468.out)); (case side2 => repeat (first | (with_reducible first | exact HB.out | apply below_alloc | apply pw_below_drewN | apply below_drew1 | refine below_set ?_ (IsS62.ge HI468.out)) | exact HB.out)); (case side3 => exact hT); rintro e w137 ⟨rfl, hi, hb, hk⟩; refine ⟨_, rfl, ?_⟩; have n0_ := Aside0.mk (hb); have n1_ := Aside0.mk (hi); clear HB; clear HI468; have HB := n0_; have HI468 := n1_; clear n0_ n1_; (try clear hb); (try clear hb2); (try clear hk); (try clear hi)))
             go_roundg k4
             case measure => have := HK1.out; have := HK2.out; have := HK3.out; have := HK4.out; omega
             case rel => exact ⟨(wrap64 (x12_4 + 1)), (t489), (t490), (t491), (t492), (by first | rfl | (simp; done) | (simp [*]; done) | (simp; unfold wrap64; omega)), H', ⟨by have := HK1.out; have := HK2.out; have := HK3.out; have := HK4.out; omega⟩, ⟨by repeat (first | (with_reducible first | exact HI468.out | apply IsS62.alloc | apply IsS62.drewN | apply IsS62.drew | apply IsS62.set_0 | apply IsS62.set_1 | apply IsS62.set_2 | apply IsS62.set_3) | exact HI468.out)⟩, ⟨by repeat (first | (with_reducible first | exact HB.out | apply below_alloc | apply pw_below_drewN | apply below_drew1 | refine below_set ?_ (IsS62.ge HI468.out)) | exact HB.out)⟩⟩
            ·rw [if_neg c135] at H
             have c135b0 : decide (x12_4 < x5_1) = false := decide_eq_false c135
             clear c135
             replace H := Option.bind_eq_some_iff.mp H
             obtain ⟨t493, A1380, H⟩ := H
             replace H : (if t493 = true then ((pack_Reader_Done.f x469000_4 x469001_4 x469002_4 x469003_4).bind fun bt494 => (some (bt494.1 == 0))) else (some false)) = some r := H
             have A138 := Aside0.mk A1380
             clear A1380
             by_cases c139 : t493 = true
             ·subst c139
              have H1 : ((pack_Reader_Done.f x469000_4 x469001_4 x469002_4 x469003_4).bind fun bt494 => (some (bt494.1 == 0))) = some r := by rw [if_pos rfl] at H; exact H
              clear H
              have H := H1
              clear H1
              replace H := Option.bind_eq_some_iff.mp H
              obtain ⟨⟨t494, t495, t496, t497, t498⟩, A1400, H⟩ := H
              replace H : (some (t494 == 0)) = some r := H
              have A140 := Aside0.mk A1400
              clear A1400
              obtain rfl := Option.some.inj H
              go_wp2_with (first | ((with_reducible refine gate_callee (f := 13) rfl ?_); refine goesL_ (some 113) rfl rfl Tryd.func13 (by kernel_rfl) rfl #[] rfl (by (try simp only [List.map_toArray, List.map_cons, List.map_nil]); first | done | rfl | (simp only [List.length_drop, List.length_take]; rfl)) ?_; (with_reducible refine (scribelaw01_awake.calls  true _ ?side1 A138.out).mono ?_); (case side1 => exact TB.below hT (by repeat (first | (with_reducible first | exact HB.out | apply below_alloc | apply pw_below_drewN | apply below_drew1 | refine below_set ?_ (IsS62.ge HI468.out)) | exact HB.out))); rintro e w141 ⟨rfl, hb⟩; refine ⟨_, rfl, ?_⟩; have n0_ := Aside0.mk (IsS62.below (by repeat (first | (with_reducible first | exact HI468.out | apply IsS62.alloc | apply IsS62.drewN | apply IsS62.drew | apply IsS62.set_0 | apply IsS62.set_1 | apply IsS62.set_2 | apply IsS62.set_3) | exact HI468.out)) hb); have n1_ := Aside0.mk (below_step (by repeat (first | (with_reducible first | exact HB.out | apply below_alloc | apply pw_below_drewN | apply below_drew1 | refine below_set ?_ (IsS62.ge HI468.out)) | exact HB.out)) hb); clear HI468; clear HB; have HI468 := n0_; have HB := n1_; clear n0_ n1_; (try clear hb); (try clear hb2); (try clear hk); (try clear hi)) | (go_at_call 18; (with_reducible refine (pack_Reader_Done.calls g468 x469000_4 x469001_4 x469002_4 x469003_4 t494 t495 t496 t497 t498 w _ ?side1 ?side2 ?side3 A140.out).mono ?_); (case side1 => repeat (first | (with_reducible first | exact HI468.out | apply IsS62.alloc | apply IsS62.drewN | apply IsS62.drew | apply IsS62.set_0 | apply IsS62.set_1 | apply IsS62.set_2 | apply IsS62.set_3) | exact HI468.out)); (case side2 => repeat (first | (with_reducible first | exact HB.out | apply below_alloc | apply pw_below_drewN | apply below_drew1 | refine below_set ?_ (IsS62.ge HI468.out)) | exact HB.out)); (case side3 => exact hT); rintro e w142 ⟨rfl, hi, hb, hk⟩; have n0_ := Aside0.mk (hb); have n1_ := Aside0.mk (hi); clear HB; clear HI468; have HB := n0_; have HI468 := n1_; clear n0_ n1_; (try clear hb); (try clear hb2); (try clear hk); (try clear hi)))
              go_ret
              exact ⟨by first | rfl | (simp [errW_none, errW_some] <;> rfl) | (simp [errW_none, errW_some] <;> first | rfl | exact isEmpty_bne _) | (simp [*, errW_none, errW_some] <;> rfl), by repeat (first | (with_reducible first | exact HB.out | apply below_alloc | apply pw_below_drewN | apply below_drew1 | refine below_set ?_ (IsS62.ge HI468.out)) | exact HB.out)⟩
             ·replace c139 := Bool.eq_false_iff.mpr c139
              subst c139
              have H1 : (some false) = some r := by rw [if_neg (show ¬ (false = true) by decide)] at H; exact H
              clear H
              have H := H1
              clear H1
              obtain rfl := Option.some.inj H
              go_wp2_with (first | ((with_reducible refine gate_callee (f := 13) rfl ?_); refine goesL_ (some 113) rfl rfl Tryd.func13 (by kernel_rfl) rfl #[] rfl (by (try simp only [List.map_toArray, List.map_cons, List.map_nil]); first | done | rfl | (simp only [List.length_drop, List.length_take]; rfl)) ?_; (with_reducible refine (scribelaw01_awake.calls  false _ ?side1 A138.out).mono ?_); (case side1 => exact TB.below hT (by repeat (first | (with_reducible first | exact HB.out | apply below_alloc | apply pw_below_drewN | apply below_drew1 | refine below_set ?_ (IsS62.ge HI468.out)) | exact HB.out))); rintro e w143 ⟨rfl, hb⟩; refine ⟨_, rfl, ?_⟩; have n0_ := Aside0.mk (IsS62.below (by repeat (first | (with_reducible first | exact HI468.out | apply IsS62.alloc | apply IsS62.drewN | apply IsS62.drew | apply IsS62.set_0 | apply IsS62.set_1 | apply IsS62.set_2 | apply IsS62.set_3) | exact HI468.out)) hb); have n1_ := Aside0.mk (below_step (by repeat (first | (with_reducible first | exact HB.out | apply below_alloc | apply pw_below_drewN | apply below_drew1 | refine below_set ?_ (IsS62.ge HI468.out)) | exact HB.out)) hb); clear HI468; clear HB; have HI468 := n0_; have HB := n1_; clear n0_ n1_; (try clear hb); (try clear hb2); (try clear hk); (try clear hi)))
              go_ret
              exact ⟨by first | rfl | (simp [errW_none, errW_some] <;> rfl) | (simp [errW_none, errW_some] <;> first | rfl | exact isEmpty_bne _) | (simp [*, errW_none, errW_some] <;> rfl), by repeat (first | (with_reducible first | exact HB.out | apply below_alloc | apply pw_below_drewN | apply below_drew1 | refine below_set ?_ (IsS62.ge HI468.out)) | exact HB.out)⟩

end Go.Proofs.YtghabadccaghcaaDoor.Pr
