/- The machine's side, written by a patched print (wip/tools): each theorem says that a call of the Go function comes to what the Lean function beside it computes, where the tables are laid (TB). -/
import Derived.Test.YtghabadccaghcaaDoorPuPkAwake
import Derived.Test.YtghabadccaghcaaDoorPr0
import Derived.Test.YtghabadccaghcaaDoorPr1
import Derived.Test.YtghabadccaghcaaDoorPr4
import Derived.Test.YtghabadccaghcaaDoorPr5
import Derived.Test.YtghabadccaghcaaDoorPr10
import Derived.Test.YtghabadccaghcaaDoorPr11
import Derived.Test.YtghabadccaghcaaDoorPr20
namespace Go.Proofs.YtghabadccaghcaaDoor.Pr
open Go.RowKit Go.Proofs.YtghabadccaghcaaDoorW.PrintWords Go.Proofs.YtghabadccaghcaaDoorW.PrintLast Go.Proofs.YtghabadccaghcaaDoorW.PrintMore
attribute [local go_sem] fld25_0 fld28_0 fld28_1 fld28_2 fld47_0 fld47_1 fld47_2 fld47_3 fld62_0 fld62_1 fld62_2 fld62_3 binOp_string_gtr2 binOp_string_leq2 binOp_string_geq2 max2_int min2_int max_two min_two max_three min_three max_four min_four   -- for this text's walks alone
set_option linter.unusedVariables false
set_option linter.unusedSimpArgs false

/-! ### scribelaw01_PackOne: function 4 -/
def scribelaw01_PackOne.j0 : Nat → ByteArray → Bool → Option (Bool)
 | 0, _, _ => none
 | k + 1, x0, x21 => if x21 = true then (some false) else ((pack_Read.f x0).bind fun bt344 => ((pack_Reader_Text.f k bt344.1 bt344.2.1 bt344.2.2.1 bt344.2.2.2 100).bind fun bt349 => ((scribelaw01_awake.f).bind fun t354 => (if t354 = true then ((pack_Reader_Done.f bt349.2.1 bt349.2.2.1 bt349.2.2.2.1 bt349.2.2.2.2).bind fun bt355 => (if bt355.1 = 0 then ((scriberef01_Text.f k bt349.1).bind fun t360 => (some (x0.toList == t360.toList))) else (some true))) else (some false)))))
def scribelaw01_PackOne.f (k : Nat) (a0 : ByteArray) : Option (Bool) := (scribelaw01_Cut.f a0 100).bind fun t327 => ((pack_Read.f t327).bind fun bt328 => ((pack_Reader_Int.f k bt328.1 bt328.2.1 bt328.2.2.1 bt328.2.2.2).bind fun bt333 => ((pack_Reader_Done.f bt333.2.1 bt333.2.2.1 bt333.2.2.2.1 bt333.2.2.2.2).bind fun bt338 => (if bt338.1 = 0 then ((scriberef01_Int.f k bt333.1).bind fun t343 => (scribelaw01_PackOne.j0 k t327 (t327.toList != t343.toList))) else (scribelaw01_PackOne.j0 k t327 false)))))
theorem scribelaw01_PackOne.mono_l : ∀ k, (∀ y0 y1, LeO (scribelaw01_PackOne.j0 k y0 y1) (scribelaw01_PackOne.j0 (k + 1) y0 y1))
 | 0 => fun _ _ r h => by simp [scribelaw01_PackOne.j0] at h
 | k + 1 => by
  have ih0 := scribelaw01_PackOne.mono_l k
  ·intro y0 y1
   unfold scribelaw01_PackOne.j0
   repeat' first
   | (with_reducible exact ih0 _ _)
   | (with_reducible exact pack_Reader_Int.mono _ _ _ _ _)
   | (with_reducible exact pack_Reader_Text.mono _ _ _ _ _ _)
   | (with_reducible exact scriberef01_Int.mono _ _)
   | (with_reducible exact scriberef01_Text.mono _ _)
   | (with_reducible exact LeO.refl _)
   | (with_reducible exact LeO.none _)
   | (with_reducible refine LeO.ite ?_ ?_)
   | (with_reducible refine LeO.bind ?_ (fun _ => ?_))
   | exact ih0 _ _
   | exact pack_Reader_Int.mono _ _ _ _ _
   | exact pack_Reader_Text.mono _ _ _ _ _ _
   | exact scriberef01_Int.mono _ _
   | exact scriberef01_Text.mono _ _
   | exact LeO.none _
   | refine LeO.ite ?_ ?_
   | refine LeO.bind ?_ (fun _ => ?_)
theorem scribelaw01_PackOne.mono : ∀ a0 k, LeO (scribelaw01_PackOne.f k a0) (scribelaw01_PackOne.f (k + 1) a0) := by
 intro a0 k
 have ih0 := scribelaw01_PackOne.mono_l k
 unfold scribelaw01_PackOne.f
 repeat' first
   | (with_reducible exact ih0 _ _)
   | (with_reducible exact pack_Reader_Int.mono _ _ _ _ _)
   | (with_reducible exact pack_Reader_Text.mono _ _ _ _ _ _)
   | (with_reducible exact scriberef01_Int.mono _ _)
   | (with_reducible exact scriberef01_Text.mono _ _)
   | (with_reducible exact LeO.refl _)
   | (with_reducible exact LeO.none _)
   | (with_reducible refine LeO.ite ?_ ?_)
   | (with_reducible refine LeO.bind ?_ (fun _ => ?_))
   | exact ih0 _ _
   | exact pack_Reader_Int.mono _ _ _ _ _
   | exact pack_Reader_Text.mono _ _ _ _ _ _
   | exact scriberef01_Int.mono _ _
   | exact scriberef01_Text.mono _ _
   | exact LeO.none _
   | refine LeO.ite ?_ ?_
   | refine LeO.bind ?_ (fun _ => ?_)
set_option maxHeartbeats 8000000 in
set_option maxRecDepth 100000 in
theorem scribelaw01_PackOne.calls (k : Nat) (a0 : ByteArray) (r : Bool) (w : World) (hT : TB w) (h : scribelaw01_PackOne.f k a0 = some r) :
  Calls Tryd.prog 4 #[.string a0] w fun e w' => e = .returned (.bool r) ∧ Below w.heap.size w w' := by
 have HB := Aside0.mk (Below.refl w.heap.size w)
 have H : ((scribelaw01_Cut.f a0 100).bind fun t327 => ((pack_Read.f t327).bind fun bt328 => ((pack_Reader_Int.f k bt328.1 bt328.2.1 bt328.2.2.1 bt328.2.2.2).bind fun bt333 => ((pack_Reader_Done.f bt333.2.1 bt333.2.2.1 bt333.2.2.2.1 bt333.2.2.2.2).bind fun bt338 => (if bt338.1 = 0 then ((scriberef01_Int.f k bt333.1).bind fun t343 => (scribelaw01_PackOne.j0 k t327 (t327.toList != t343.toList))) else (scribelaw01_PackOne.j0 k t327 false)))))) = some r := h
 clear h
 replace H := Option.bind_eq_some_iff.mp H
 obtain ⟨t327, A20, H⟩ := H
 replace H : ((pack_Read.f t327).bind fun bt328 => ((pack_Reader_Int.f k bt328.1 bt328.2.1 bt328.2.2.1 bt328.2.2.2).bind fun bt333 => ((pack_Reader_Done.f bt333.2.1 bt333.2.2.1 bt333.2.2.2.1 bt333.2.2.2.2).bind fun bt338 => (if bt338.1 = 0 then ((scriberef01_Int.f k bt333.1).bind fun t343 => (scribelaw01_PackOne.j0 k t327 (t327.toList != t343.toList))) else (scribelaw01_PackOne.j0 k t327 false))))) = some r := H
 have A2 := Aside0.mk A20
 clear A20
 replace H := Option.bind_eq_some_iff.mp H
 obtain ⟨⟨t328, t329, t330, t331⟩, A30, H⟩ := H
 replace H : ((pack_Reader_Int.f k t328 t329 t330 t331).bind fun bt333 => ((pack_Reader_Done.f bt333.2.1 bt333.2.2.1 bt333.2.2.2.1 bt333.2.2.2.2).bind fun bt338 => (if bt338.1 = 0 then ((scriberef01_Int.f k bt333.1).bind fun t343 => (scribelaw01_PackOne.j0 k t327 (t327.toList != t343.toList))) else (scribelaw01_PackOne.j0 k t327 false)))) = some r := H
 have A3 := Aside0.mk A30
 clear A30
 replace H := Option.bind_eq_some_iff.mp H
 obtain ⟨⟨t333, t334, t335, t336, t337⟩, A40, H⟩ := H
 replace H : ((pack_Reader_Done.f t334 t335 t336 t337).bind fun bt338 => (if bt338.1 = 0 then ((scriberef01_Int.f k t333).bind fun t343 => (scribelaw01_PackOne.j0 k t327 (t327.toList != t343.toList))) else (scribelaw01_PackOne.j0 k t327 false))) = some r := H
 have A4 := Aside0.mk A40
 clear A40
 have HC5 := Aside0.mk H
 clear H
 go_enter Tryd.func4, Tryd.ntmps4
 go_upto_region 4 with (first | ((with_reducible refine gate_callee (f := 15) rfl ?_); refine goesL_ (some 8) rfl rfl Tryd.func15 (by kernel_rfl) rfl #[.string a0, .int .i64 100] rfl (by (try simp only [List.map_toArray, List.map_cons, List.map_nil]); first | done | rfl | (simp only [List.length_drop, List.length_take]; rfl)) ?_; (with_reducible refine (scribelaw01_Cut.calls a0 100 t327 _ ?side1 A2.out).mono ?_); (case side1 => exact TB.below hT (by repeat (first | (with_reducible first | exact HB.out | apply below_alloc | apply pw_below_drewN | apply below_drew1) | exact HB.out))); rintro e w6 ⟨rfl, hb⟩; refine ⟨_, rfl, ?_⟩; have n0_ := Aside0.mk (below_step (by repeat (first | (with_reducible first | exact HB.out | apply below_alloc | apply pw_below_drewN | apply below_drew1) | exact HB.out)) hb); clear HB; have HB := n0_; clear n0_; (try clear hb); (try clear hb2); (try clear hk); (try clear hi)) | ((with_reducible refine gate_callee (f := 16) rfl ?_); refine goesL_ (some 10) rfl rfl Tryd.func16 (by kernel_rfl) rfl #[.string t327] rfl (by (try simp only [List.map_toArray, List.map_cons, List.map_nil]); first | done | rfl | (simp only [List.length_drop, List.length_take]; rfl)) ?_; (with_reducible refine (pack_Read.calls t327 t328 t329 t330 t331 w _ ?side1 ?side2 A3.out).mono ?_); (case side1 => repeat (first | (with_reducible first | exact HB.out | apply below_alloc | apply pw_below_drewN | apply below_drew1) | exact HB.out)); (case side2 => exact hT); rintro e w7 ⟨g332, rfl, hi, hb, hb2⟩; refine ⟨_, rfl, ?_⟩; have n0_ := Aside0.mk (hb); have n1_ := Aside0.mk (hi); clear HB; have HB := n0_; have HI332 := n1_; clear n0_ n1_; (try clear hb); (try clear hb2); (try clear hk); (try clear hi)) | ((with_reducible refine gate_callee (f := 17) rfl ?_); refine goesL_ (some 12) rfl rfl Tryd.func17 (by kernel_rfl) rfl #[.pointer (some ⟨g332, 0, none⟩)] rfl (by (try simp only [List.map_toArray, List.map_cons, List.map_nil]); first | done | rfl | (simp only [List.length_drop, List.length_take]; rfl)) ?_; (with_reducible refine (pack_Reader_Int.calls k g332 t328 t329 t330 t331 t333 t334 t335 t336 t337 w _ ?side1 ?side2 ?side3 A4.out).mono ?_); (case side1 => repeat (first | (with_reducible first | exact HI332.out | apply IsS62.alloc | apply IsS62.drewN | apply IsS62.drew | apply IsS62.set_0 | apply IsS62.set_1 | apply IsS62.set_2 | apply IsS62.set_3) | exact HI332.out)); (case side2 => repeat (first | (with_reducible first | exact HB.out | apply below_alloc | apply pw_below_drewN | apply below_drew1 | refine below_set ?_ (IsS62.ge HI332.out)) | exact HB.out)); (case side3 => exact hT); rintro e w8 ⟨rfl, hi, hb, hk⟩; refine ⟨_, rfl, ?_⟩; have n0_ := Aside0.mk (hb); have n1_ := Aside0.mk (hi); clear HB; clear HI332; have HB := n0_; have HI332 := n1_; clear n0_ n1_; (try clear hb); (try clear hb2); (try clear hk); (try clear hi)))
 (try simp only [Act.put, List.setIfInBounds_toArray, List.set_cons_zero, List.set_cons_succ])
 go_cut [21] (fun v21 wc => ∃ (kq : Nat) (x21_4 : Bool), v21 = .bool x21_4 ∧ Aside0 (scribelaw01_PackOne.j0 kq t327 x21_4 = some r) ∧ Aside0 (kq ≤ k) ∧ Aside0 (Below w.heap.size w wc))
 case first =>
  have H := HC5.out
  clear HC5
  replace H := Option.bind_eq_some_iff.mp H
  obtain ⟨⟨t338, t339, t340, t341, t342⟩, A90, H⟩ := H
  replace H : (if t338 = 0 then ((scriberef01_Int.f k t333).bind fun t343 => (scribelaw01_PackOne.j0 k t327 (t327.toList != t343.toList))) else (scribelaw01_PackOne.j0 k t327 false)) = some r := H
  have A9 := Aside0.mk A90
  clear A90
  by_cases c10 : t338 = 0
  ·rw [if_pos c10] at H
   have c10b0 : (t338 == 0) = true := beq_iff_eq.mpr c10
   have c10b1 : (t338 != 0) = false := bne_eq_false_iff_eq.mpr c10
   clear c10
   (first | rw [c10b0] | (simp only [i64_w, i32_w]; rw [c10b0]) | skip)
   replace H := Option.bind_eq_some_iff.mp H
   obtain ⟨t343, A110, H⟩ := H
   replace H : (scribelaw01_PackOne.j0 k t327 (t327.toList != t343.toList)) = some r := H
   have A11 := Aside0.mk A110
   clear A110
   have H' := Aside0.mk H
   clear H
   go_wp2_with (first | ((with_reducible refine gate_callee (f := 18) rfl ?_); refine goesL_ (some 14) rfl rfl Tryd.func18 (by kernel_rfl) rfl #[.pointer (some ⟨g332, 0, none⟩)] rfl (by (try simp only [List.map_toArray, List.map_cons, List.map_nil]); first | done | rfl | (simp only [List.length_drop, List.length_take]; rfl)) ?_; (with_reducible refine (pack_Reader_Done.calls g332 t334 t335 t336 t337 t338 t339 t340 t341 t342 w _ ?side1 ?side2 ?side3 A9.out).mono ?_); (case side1 => repeat (first | (with_reducible first | exact HI332.out | apply IsS62.alloc | apply IsS62.drewN | apply IsS62.drew | apply IsS62.set_0 | apply IsS62.set_1 | apply IsS62.set_2 | apply IsS62.set_3) | exact HI332.out)); (case side2 => repeat (first | (with_reducible first | exact HB.out | apply below_alloc | apply pw_below_drewN | apply below_drew1 | refine below_set ?_ (IsS62.ge HI332.out)) | exact HB.out)); (case side3 => exact hT); rintro e w12 ⟨rfl, hi, hb, hk⟩; refine ⟨_, rfl, ?_⟩; have n0_ := Aside0.mk (hb); have n1_ := Aside0.mk (hi); clear HB; clear HI332; have HB := n0_; have HI332 := n1_; clear n0_ n1_; (try clear hb); (try clear hb2); (try clear hk); (try clear hi)) | (go_at_call 19; (with_reducible refine (scriberef01_Int.calls k t333 t343 _ ?side1 A11.out).mono ?_); (case side1 => exact TB.below hT (by repeat (first | (with_reducible first | exact HB.out | apply below_alloc | apply pw_below_drewN | apply below_drew1 | refine below_set ?_ (IsS62.ge HI332.out)) | exact HB.out))); rintro e w13 ⟨rfl, hb⟩; have n0_ := Aside0.mk (IsS62.below (by repeat (first | (with_reducible first | exact HI332.out | apply IsS62.alloc | apply IsS62.drewN | apply IsS62.drew | apply IsS62.set_0 | apply IsS62.set_1 | apply IsS62.set_2 | apply IsS62.set_3) | exact HI332.out)) hb); have n1_ := Aside0.mk (below_step (by repeat (first | (with_reducible first | exact HB.out | apply below_alloc | apply pw_below_drewN | apply below_drew1 | refine below_set ?_ (IsS62.ge HI332.out)) | exact HB.out)) hb); clear HI332; clear HB; have HI332 := n0_; have HB := n1_; clear n0_ n1_; (try clear hb); (try clear hb2); (try clear hk); (try clear hi)))
   go_meet
   case rel => exact ⟨_, ((t327.toList != t343.toList)), (by first | rfl | (simp; done) | (simp [*]; done) | (simp; unfold wrap64; omega)), H', ⟨by first | omega | exact Nat.le_refl _⟩, ⟨by repeat (first | (with_reducible first | exact HB.out | apply below_alloc | apply pw_below_drewN | apply below_drew1 | refine below_set ?_ (IsS62.ge HI332.out)) | exact HB.out)⟩⟩
  ·rw [if_neg c10] at H
   have c10b0 : (t338 == 0) = false := beq_eq_false_iff_ne.mpr c10
   have c10b1 : (t338 != 0) = true := bne_iff_ne.mpr c10
   (first | rw [c10b0] | (simp only [i64_w, i32_w]; rw [c10b0]) | skip)
   have H' := Aside0.mk H
   clear H
   go_wp2_with (first | ((with_reducible refine gate_callee (f := 18) rfl ?_); refine goesL_ (some 14) rfl rfl Tryd.func18 (by kernel_rfl) rfl #[.pointer (some ⟨g332, 0, none⟩)] rfl (by (try simp only [List.map_toArray, List.map_cons, List.map_nil]); first | done | rfl | (simp only [List.length_drop, List.length_take]; rfl)) ?_; (with_reducible refine (pack_Reader_Done.calls g332 t334 t335 t336 t337 t338 t339 t340 t341 t342 w _ ?side1 ?side2 ?side3 A9.out).mono ?_); (case side1 => repeat (first | (with_reducible first | exact HI332.out | apply IsS62.alloc | apply IsS62.drewN | apply IsS62.drew | apply IsS62.set_0 | apply IsS62.set_1 | apply IsS62.set_2 | apply IsS62.set_3) | exact HI332.out)); (case side2 => repeat (first | (with_reducible first | exact HB.out | apply below_alloc | apply pw_below_drewN | apply below_drew1 | refine below_set ?_ (IsS62.ge HI332.out)) | exact HB.out)); (case side3 => exact hT); rintro e w14 ⟨rfl, hi, hb, hk⟩; refine ⟨_, rfl, ?_⟩; have n0_ := Aside0.mk (hb); have n1_ := Aside0.mk (hi); clear HB; clear HI332; have HB := n0_; have HI332 := n1_; clear n0_ n1_; (try clear hb); (try clear hb2); (try clear hk); (try clear hi)))
   go_meet
   case rel => exact ⟨_, (false), (by first | rfl | (simp; done) | (simp [*]; done) | (simp; unfold wrap64; omega)), H', ⟨by first | omega | exact Nat.le_refl _⟩, ⟨by repeat (first | (with_reducible first | exact HB.out | apply below_alloc | apply pw_below_drewN | apply below_drew1 | refine below_set ?_ (IsS62.ge HI332.out)) | exact HB.out)⟩⟩
 case rest =>
  clear HC5
  try clear c1
  try clear p2
  try clear c4
  try clear p6
  try clear c10
  try clear c10b0
  try clear c10b1
  obtain ⟨kq, x21_4, rfl, HA, HJ4, HB⟩ := hcut
  cases kq with
  | zero => exact absurd HA.out (by simp [scribelaw01_PackOne.j0])
  | succ kj4 =>
   have H := HA.out
   clear HA
   simp only [scribelaw01_PackOne.j0] at H
   by_cases c15 : x21_4 = true
   ·subst c15
    have H1 : (some false) = some r := by rw [if_pos rfl] at H; exact H
    clear H
    have H := H1
    clear H1
    obtain rfl := Option.some.inj H
    go_wp2
    go_ret
    exact ⟨by first | rfl | (simp [errW_none, errW_some] <;> rfl) | (simp [errW_none, errW_some] <;> first | rfl | exact isEmpty_bne _) | (simp [*, errW_none, errW_some] <;> rfl), by repeat (first | (with_reducible first | exact HB.out | apply below_alloc | apply pw_below_drewN | apply below_drew1) | exact HB.out)⟩
   ·replace c15 := Bool.eq_false_iff.mpr c15
    subst c15
    have H1 : ((pack_Read.f t327).bind fun bt344 => ((pack_Reader_Text.f kj4 bt344.1 bt344.2.1 bt344.2.2.1 bt344.2.2.2 100).bind fun bt349 => ((scribelaw01_awake.f).bind fun t354 => (if t354 = true then ((pack_Reader_Done.f bt349.2.1 bt349.2.2.1 bt349.2.2.2.1 bt349.2.2.2.2).bind fun bt355 => (if bt355.1 = 0 then ((scriberef01_Text.f kj4 bt349.1).bind fun t360 => (some (t327.toList == t360.toList))) else (some true))) else (some false))))) = some r := by rw [if_neg (show ¬ (false = true) by decide)] at H; exact H
    clear H
    have H := H1
    clear H1
    replace H := Option.bind_eq_some_iff.mp H
    obtain ⟨⟨t344, t345, t346, t347⟩, A160, H⟩ := H
    replace H : ((pack_Reader_Text.f kj4 t344 t345 t346 t347 100).bind fun bt349 => ((scribelaw01_awake.f).bind fun t354 => (if t354 = true then ((pack_Reader_Done.f bt349.2.1 bt349.2.2.1 bt349.2.2.2.1 bt349.2.2.2.2).bind fun bt355 => (if bt355.1 = 0 then ((scriberef01_Text.f kj4 bt349.1).bind fun t360 => (some (t327.toList == t360.toList))) else (some true))) else (some false)))) = some r := H
    have A16 := Aside0.mk A160
    clear A160
    replace H := Option.bind_eq_some_iff.mp H
    obtain ⟨⟨t349, t350, t351, t352, t353⟩, A170, H⟩ := H
    replace H : ((scribelaw01_awake.f).bind fun t354 => (if t354 = true then ((pack_Reader_Done.f t350 t351 t352 t353).bind fun bt355 => (if bt355.1 = 0 then ((scriberef01_Text.f kj4 t349).bind fun t360 => (some (t327.toList == t360.toList))) else (some true))) else (some false))) = some r := H
    have A17 := Aside0.mk A170
    clear A170
    replace H := Option.bind_eq_some_iff.mp H
    obtain ⟨t354, A180, H⟩ := H
    replace H : (if t354 = true then ((pack_Reader_Done.f t350 t351 t352 t353).bind fun bt355 => (if bt355.1 = 0 then ((scriberef01_Text.f kj4 t349).bind fun t360 => (some (t327.toList == t360.toList))) else (some true))) else (some false)) = some r := H
    have A18 := Aside0.mk A180
    clear A180
    by_cases c19 : t354 = true
    ·subst c19
     have H1 : ((pack_Reader_Done.f t350 t351 t352 t353).bind fun bt355 => (if bt355.1 = 0 then ((scriberef01_Text.f kj4 t349).bind fun t360 => (some (t327.toList == t360.toList))) else (some true))) = some r := by rw [if_pos rfl] at H; exact H
     clear H
     have H := H1
     clear H1
     replace H := Option.bind_eq_some_iff.mp H
     obtain ⟨⟨t355, t356, t357, t358, t359⟩, A200, H⟩ := H
     replace H : (if t355 = 0 then ((scriberef01_Text.f kj4 t349).bind fun t360 => (some (t327.toList == t360.toList))) else (some true)) = some r := H
     have A20 := Aside0.mk A200
     clear A200
     by_cases c21 : t355 = 0
     ·rw [if_pos c21] at H
      have c21b0 : (t355 == 0) = true := beq_iff_eq.mpr c21
      have c21b1 : (t355 != 0) = false := bne_eq_false_iff_eq.mpr c21
      clear c21
      replace H := Option.bind_eq_some_iff.mp H
      obtain ⟨t360, A220, H⟩ := H
      replace H : (some (t327.toList == t360.toList)) = some r := H
      have A22 := Aside0.mk A220
      clear A220
      obtain rfl := Option.some.inj H
      go_wp2_with (first | ((with_reducible refine gate_callee (f := 16) rfl ?_); refine goesL_ (some 23) rfl rfl Tryd.func16 (by kernel_rfl) rfl #[.string t327] rfl (by (try simp only [List.map_toArray, List.map_cons, List.map_nil]); first | done | rfl | (simp only [List.length_drop, List.length_take]; rfl)) ?_; (with_reducible refine (pack_Read.calls t327 t344 t345 t346 t347 w _ ?side1 ?side2 A16.out).mono ?_); (case side1 => repeat (first | (with_reducible first | exact HB.out | apply below_alloc | apply pw_below_drewN | apply below_drew1) | exact HB.out)); (case side2 => exact hT); rintro e w23 ⟨g348, rfl, hi, hb, hb2⟩; refine ⟨_, rfl, ?_⟩; have n0_ := Aside0.mk (hb); have n1_ := Aside0.mk (hi); clear HB; have HB := n0_; have HI348 := n1_; clear n0_ n1_; (try clear hb); (try clear hb2); (try clear hk); (try clear hi)) | ((with_reducible refine gate_callee (f := 20) rfl ?_); refine goesL_ (some 25) rfl rfl Tryd.func20 (by kernel_rfl) rfl #[.pointer (some ⟨g348, 0, none⟩), .int .i64 100] rfl (by (try simp only [List.map_toArray, List.map_cons, List.map_nil]); first | done | rfl | (simp only [List.length_drop, List.length_take]; rfl)) ?_; (with_reducible refine (pack_Reader_Text.calls kj4 g348 t344 t345 t346 t347 100 t349 t350 t351 t352 t353 w _ ?side1 ?side2 ?side3 A17.out).mono ?_); (case side1 => repeat (first | (with_reducible first | exact HI348.out | apply IsS62.alloc | apply IsS62.drewN | apply IsS62.drew | apply IsS62.set_0 | apply IsS62.set_1 | apply IsS62.set_2 | apply IsS62.set_3) | exact HI348.out)); (case side2 => repeat (first | (with_reducible first | exact HB.out | apply below_alloc | apply pw_below_drewN | apply below_drew1 | refine below_set ?_ (IsS62.ge HI348.out)) | exact HB.out)); (case side3 => exact hT); rintro e w24 ⟨rfl, hi, hb, hk⟩; refine ⟨_, rfl, ?_⟩; have n0_ := Aside0.mk (hb); have n1_ := Aside0.mk (hi); clear HB; clear HI348; have HB := n0_; have HI348 := n1_; clear n0_ n1_; (try clear hb); (try clear hb2); (try clear hk); (try clear hi)) | ((with_reducible refine gate_callee (f := 13) rfl ?_); refine goesL_ (some 26) rfl rfl Tryd.func13 (by kernel_rfl) rfl #[] rfl (by (try simp only [List.map_toArray, List.map_cons, List.map_nil]); first | done | rfl | (simp only [List.length_drop, List.length_take]; rfl)) ?_; (with_reducible refine (scribelaw01_awake.calls  true _ ?side1 A18.out).mono ?_); (case side1 => exact TB.below hT (by repeat (first | (with_reducible first | exact HB.out | apply below_alloc | apply pw_below_drewN | apply below_drew1 | refine below_set ?_ (IsS62.ge HI348.out)) | exact HB.out))); rintro e w25 ⟨rfl, hb⟩; refine ⟨_, rfl, ?_⟩; have n0_ := Aside0.mk (IsS62.below (by repeat (first | (with_reducible first | exact HI348.out | apply IsS62.alloc | apply IsS62.drewN | apply IsS62.drew | apply IsS62.set_0 | apply IsS62.set_1 | apply IsS62.set_2 | apply IsS62.set_3) | exact HI348.out)) hb); have n1_ := Aside0.mk (below_step (by repeat (first | (with_reducible first | exact HB.out | apply below_alloc | apply pw_below_drewN | apply below_drew1 | refine below_set ?_ (IsS62.ge HI348.out)) | exact HB.out)) hb); clear HI348; clear HB; have HI348 := n0_; have HB := n1_; clear n0_ n1_; (try clear hb); (try clear hb2); (try clear hk); (try clear hi)) | (go_at_call 18; (with_reducible refine (pack_Reader_Done.calls g348 t350 t351 t352 t353 t355 t356 t357 t358 t359 w _ ?side1 ?side2 ?side3 A20.out).mono ?_); (case side1 => repeat (first | (with_reducible first | exact HI348.out | apply IsS62.alloc | apply IsS62.drewN | apply IsS62.drew | apply IsS62.set_0 | apply IsS62.set_1 | apply IsS62.set_2 | apply IsS62.set_3) | exact HI348.out)); (case side2 => repeat (first | (with_reducible first | exact HB.out | apply below_alloc | apply pw_below_drewN | apply below_drew1 | refine below_set ?_ (IsS62.ge HI348.out)) | exact HB.out)); (case side3 => exact hT); rintro e w26 ⟨rfl, hi, hb, hk⟩; have n0_ := Aside0.mk (hb); have n1_ := Aside0.mk (hi); clear HB; clear HI348; have HB := n0_; have HI348 := n1_; clear n0_ n1_; (try clear hb); (try clear hb2); (try clear hk); (try clear hi)) | (go_at_call 21; (with_reducible refine (scriberef01_Text.calls kj4 t349 t360 _ ?side1 A22.out).mono ?_); (case side1 => exact TB.below hT (by repeat (first | (with_reducible first | exact HB.out | apply below_alloc | apply pw_below_drewN | apply below_drew1 | refine below_set ?_ (IsS62.ge HI348.out)) | exact HB.out))); rintro e w27 ⟨rfl, hb⟩; have n0_ := Aside0.mk (IsS62.below (by repeat (first | (with_reducible first | exact HI348.out | apply IsS62.alloc | apply IsS62.drewN | apply IsS62.drew | apply IsS62.set_0 | apply IsS62.set_1 | apply IsS62.set_2 | apply IsS62.set_3) | exact HI348.out)) hb); have n1_ := Aside0.mk (below_step (by repeat (first | (with_reducible first | exact HB.out | apply below_alloc | apply pw_below_drewN | apply below_drew1 | refine below_set ?_ (IsS62.ge HI348.out)) | exact HB.out)) hb); clear HI348; clear HB; have HI348 := n0_; have HB := n1_; clear n0_ n1_; (try clear hb); (try clear hb2); (try clear hk); (try clear hi)))
      go_ret
      exact ⟨by first | rfl | (simp [errW_none, errW_some] <;> rfl) | (simp [errW_none, errW_some] <;> first | rfl | exact isEmpty_bne _) | (simp [*, errW_none, errW_some] <;> rfl), by repeat (first | (with_reducible first | exact HB.out | apply below_alloc | apply pw_below_drewN | apply below_drew1 | refine below_set ?_ (IsS62.ge HI348.out)) | exact HB.out)⟩
     ·rw [if_neg c21] at H
      have c21b0 : (t355 == 0) = false := beq_eq_false_iff_ne.mpr c21
      have c21b1 : (t355 != 0) = true := bne_iff_ne.mpr c21
      obtain rfl := Option.some.inj H
      go_wp2_with (first | ((with_reducible refine gate_callee (f := 16) rfl ?_); refine goesL_ (some 23) rfl rfl Tryd.func16 (by kernel_rfl) rfl #[.string t327] rfl (by (try simp only [List.map_toArray, List.map_cons, List.map_nil]); first | done | rfl | (simp only [List.length_drop, List.length_take]; rfl)) ?_; (with_reducible refine (pack_Read.calls t327 t344 t345 t346 t347 w _ ?side1 ?side2 A16.out).mono ?_); (case side1 => repeat (first | (with_reducible first | exact HB.out | apply below_alloc | apply pw_below_drewN | apply below_drew1) | exact HB.out)); (case side2 => exact hT); rintro e w28 ⟨g348, rfl, hi, hb, hb2⟩; refine ⟨_, rfl, ?_⟩; have n0_ := Aside0.mk (hb); have n1_ := Aside0.mk (hi); clear HB; have HB := n0_; have HI348 := n1_; clear n0_ n1_; (try clear hb); (try clear hb2); (try clear hk); (try clear hi)) | ((with_reducible refine gate_callee (f := 20) rfl ?_); refine goesL_ (some 25) rfl rfl Tryd.func20 (by kernel_rfl) rfl #[.pointer (some ⟨g348, 0, none⟩), .int .i64 100] rfl (by (try simp only [List.map_toArray, List.map_cons, List.map_nil]); first | done | rfl | (simp only [List.length_drop, List.length_take]; rfl)) ?_; (with_reducible refine (pack_Reader_Text.calls kj4 g348 t344 t345 t346 t347 100 t349 t350 t351 t352 t353 w _ ?side1 ?side2 ?side3 A17.out).mono ?_); (case side1 => repeat (first | (with_reducible first | exact HI348.out | apply IsS62.alloc | apply IsS62.drewN | apply IsS62.drew | apply IsS62.set_0 | apply IsS62.set_1 | apply IsS62.set_2 | apply IsS62.set_3) | exact HI348.out)); (case side2 => repeat (first | (with_reducible first | exact HB.out | apply below_alloc | apply pw_below_drewN | apply below_drew1 | refine below_set ?_ (IsS62.ge HI348.out)) | exact HB.out)); (case side3 => exact hT); rintro e w29 ⟨rfl, hi, hb, hk⟩; refine ⟨_, rfl, ?_⟩; have n0_ := Aside0.mk (hb); have n1_ := Aside0.mk (hi); clear HB; clear HI348; have HB := n0_; have HI348 := n1_; clear n0_ n1_; (try clear hb); (try clear hb2); (try clear hk); (try clear hi)) | ((with_reducible refine gate_callee (f := 13) rfl ?_); refine goesL_ (some 26) rfl rfl Tryd.func13 (by kernel_rfl) rfl #[] rfl (by (try simp only [List.map_toArray, List.map_cons, List.map_nil]); first | done | rfl | (simp only [List.length_drop, List.length_take]; rfl)) ?_; (with_reducible refine (scribelaw01_awake.calls  true _ ?side1 A18.out).mono ?_); (case side1 => exact TB.below hT (by repeat (first | (with_reducible first | exact HB.out | apply below_alloc | apply pw_below_drewN | apply below_drew1 | refine below_set ?_ (IsS62.ge HI348.out)) | exact HB.out))); rintro e w30 ⟨rfl, hb⟩; refine ⟨_, rfl, ?_⟩; have n0_ := Aside0.mk (IsS62.below (by repeat (first | (with_reducible first | exact HI348.out | apply IsS62.alloc | apply IsS62.drewN | apply IsS62.drew | apply IsS62.set_0 | apply IsS62.set_1 | apply IsS62.set_2 | apply IsS62.set_3) | exact HI348.out)) hb); have n1_ := Aside0.mk (below_step (by repeat (first | (with_reducible first | exact HB.out | apply below_alloc | apply pw_below_drewN | apply below_drew1 | refine below_set ?_ (IsS62.ge HI348.out)) | exact HB.out)) hb); clear HI348; clear HB; have HI348 := n0_; have HB := n1_; clear n0_ n1_; (try clear hb); (try clear hb2); (try clear hk); (try clear hi)) | (go_at_call 18; (with_reducible refine (pack_Reader_Done.calls g348 t350 t351 t352 t353 t355 t356 t357 t358 t359 w _ ?side1 ?side2 ?side3 A20.out).mono ?_); (case side1 => repeat (first | (with_reducible first | exact HI348.out | apply IsS62.alloc | apply IsS62.drewN | apply IsS62.drew | apply IsS62.set_0 | apply IsS62.set_1 | apply IsS62.set_2 | apply IsS62.set_3) | exact HI348.out)); (case side2 => repeat (first | (with_reducible first | exact HB.out | apply below_alloc | apply pw_below_drewN | apply below_drew1 | refine below_set ?_ (IsS62.ge HI348.out)) | exact HB.out)); (case side3 => exact hT); rintro e w31 ⟨rfl, hi, hb, hk⟩; have n0_ := Aside0.mk (hb); have n1_ := Aside0.mk (hi); clear HB; clear HI348; have HB := n0_; have HI348 := n1_; clear n0_ n1_; (try clear hb); (try clear hb2); (try clear hk); (try clear hi)))
      go_ret
      exact ⟨by first | rfl | (simp [errW_none, errW_some] <;> rfl) | (simp [errW_none, errW_some] <;> first | rfl | exact isEmpty_bne _) | (simp [*, errW_none, errW_some] <;> rfl), by repeat (first | (with_reducible first | exact HB.out | apply below_alloc | apply pw_below_drewN | apply below_drew1 | refine below_set ?_ (IsS62.ge HI348.out)) | exact HB.out)⟩
    ·replace c19 := Bool.eq_false_iff.mpr c19
     subst c19
     have H1 : (some false) = some r := by rw [if_neg (show ¬ (false = true) by decide)] at H; exact H
     clear H
     have H := H1
     clear H1
     obtain rfl := Option.some.inj H
     go_wp2_with (first | ((with_reducible refine gate_callee (f := 16) rfl ?_); refine goesL_ (some 23) rfl rfl Tryd.func16 (by kernel_rfl) rfl #[.string t327] rfl (by (try simp only [List.map_toArray, List.map_cons, List.map_nil]); first | done | rfl | (simp only [List.length_drop, List.length_take]; rfl)) ?_; (with_reducible refine (pack_Read.calls t327 t344 t345 t346 t347 w _ ?side1 ?side2 A16.out).mono ?_); (case side1 => repeat (first | (with_reducible first | exact HB.out | apply below_alloc | apply pw_below_drewN | apply below_drew1) | exact HB.out)); (case side2 => exact hT); rintro e w32 ⟨g348, rfl, hi, hb, hb2⟩; refine ⟨_, rfl, ?_⟩; have n0_ := Aside0.mk (hb); have n1_ := Aside0.mk (hi); clear HB; have HB := n0_; have HI348 := n1_; clear n0_ n1_; (try clear hb); (try clear hb2); (try clear hk); (try clear hi)) | ((with_reducible refine gate_callee (f := 20) rfl ?_); refine goesL_ (some 25) rfl rfl Tryd.func20 (by kernel_rfl) rfl #[.pointer (some ⟨g348, 0, none⟩), .int .i64 100] rfl (by (try simp only [List.map_toArray, List.map_cons, List.map_nil]); first | done | rfl | (simp only [List.length_drop, List.length_take]; rfl)) ?_; (with_reducible refine (pack_Reader_Text.calls kj4 g348 t344 t345 t346 t347 100 t349 t350 t351 t352 t353 w _ ?side1 ?side2 ?side3 A17.out).mono ?_); (case side1 => repeat (first | (with_reducible first | exact HI348.out | apply IsS62.alloc | apply IsS62.drewN | apply IsS62.drew | apply IsS62.set_0 | apply IsS62.set_1 | apply IsS62.set_2 | apply IsS62.set_3) | exact HI348.out)); (case side2 => repeat (first | (with_reducible first | exact HB.out | apply below_alloc | apply pw_below_drewN | apply below_drew1 | refine below_set ?_ (IsS62.ge HI348.out)) | exact HB.out)); (case side3 => exact hT); rintro e w33 ⟨rfl, hi, hb, hk⟩; refine ⟨_, rfl, ?_⟩; have n0_ := Aside0.mk (hb); have n1_ := Aside0.mk (hi); clear HB; clear HI348; have HB := n0_; have HI348 := n1_; clear n0_ n1_; (try clear hb); (try clear hb2); (try clear hk); (try clear hi)) | ((with_reducible refine gate_callee (f := 13) rfl ?_); refine goesL_ (some 26) rfl rfl Tryd.func13 (by kernel_rfl) rfl #[] rfl (by (try simp only [List.map_toArray, List.map_cons, List.map_nil]); first | done | rfl | (simp only [List.length_drop, List.length_take]; rfl)) ?_; (with_reducible refine (scribelaw01_awake.calls  false _ ?side1 A18.out).mono ?_); (case side1 => exact TB.below hT (by repeat (first | (with_reducible first | exact HB.out | apply below_alloc | apply pw_below_drewN | apply below_drew1 | refine below_set ?_ (IsS62.ge HI348.out)) | exact HB.out))); rintro e w34 ⟨rfl, hb⟩; refine ⟨_, rfl, ?_⟩; have n0_ := Aside0.mk (IsS62.below (by repeat (first | (with_reducible first | exact HI348.out | apply IsS62.alloc | apply IsS62.drewN | apply IsS62.drew | apply IsS62.set_0 | apply IsS62.set_1 | apply IsS62.set_2 | apply IsS62.set_3) | exact HI348.out)) hb); have n1_ := Aside0.mk (below_step (by repeat (first | (with_reducible first | exact HB.out | apply below_alloc | apply pw_below_drewN | apply below_drew1 | refine below_set ?_ (IsS62.ge HI348.out)) | exact HB.out)) hb); clear HI348; clear HB; have HI348 := n0_; have HB := n1_; clear n0_ n1_; (try clear hb); (try clear hb2); (try clear hk); (try clear hi)))
     go_ret
     exact ⟨by first | rfl | (simp [errW_none, errW_some] <;> rfl) | (simp [errW_none, errW_some] <;> first | rfl | exact isEmpty_bne _) | (simp [*, errW_none, errW_some] <;> rfl), by repeat (first | (with_reducible first | exact HB.out | apply below_alloc | apply pw_below_drewN | apply below_drew1 | refine below_set ?_ (IsS62.ge HI348.out)) | exact HB.out)⟩

end Go.Proofs.YtghabadccaghcaaDoor.Pr
