/- The machine's side, written by a patched print (wip/tools): each theorem says that a call of the Go function comes to what the Lean function beside it computes, where the tables are laid (TB). -/
import Derived.Test.YtcbocfgiegdhmaaDoorPr0
import Derived.Test.YtcbocfgiegdhmaaDoorPr1
import Derived.Test.YtcbocfgiegdhmaaDoorPr3
import Derived.Test.YtcbocfgiegdhmaaDoorPr8
import Derived.Test.YtcbocfgiegdhmaaDoorPr10
namespace Go.Proofs.YtcbocfgiegdhmaaDoor.Pr
open Go.RowKit Go.Proofs.YtcbocfgiegdhmaaDoorW.PrintWords Go.Proofs.YtcbocfgiegdhmaaDoorW.PrintLast Go.Proofs.YtcbocfgiegdhmaaDoorW.PrintMore
attribute [local go_sem] max2_int min2_int max_two min_two max_three min_three max_four min_four   -- for this text's walks alone
set_option linter.unusedVariables false
set_option linter.unusedSimpArgs false

/-! ### scribelaw05_NumParts: function 4 -/
mutual
def scribelaw05_NumParts.j0 : Nat → Int → Int → Bool → Option (Bool)
  | 0, _, _, _ => none
  | k + 1, x0, x1, x20 => if x20 = true then ((scribelaw05_awake.f k).bind fun t146 => (some t146)) else ((num_Mod.f x0 x1).bind fun bt147 => ((num_Add.f k x0 1).bind fun t149 => ((num_Div.f k x0 t149).bind fun bt150 => (if bt147.2 = 0 then (if bt147.1 = 0 then (if bt147.1 < 0 then ((scribelaw05_size.f x1).bind fun t152 => (if (wrap64 (-bt147.1)) ≥ t152 then (scribelaw05_NumParts.j1 k x0 x1 bt147.1 bt150.1 bt150.2 true) else (if bt147.1 > 0 then (scribelaw05_NumParts.j1 k x0 x1 bt147.1 bt150.1 bt150.2 (decide (bt147.1 ≥ t152))) else (scribelaw05_NumParts.j1 k x0 x1 bt147.1 bt150.1 bt150.2 false)))) else (if bt147.1 > 0 then ((scribelaw05_size.f x1).bind fun t153 => (scribelaw05_NumParts.j1 k x0 x1 bt147.1 bt150.1 bt150.2 (decide (bt147.1 ≥ t153)))) else (scribelaw05_NumParts.j1 k x0 x1 bt147.1 bt150.1 bt150.2 false))) else (if bt147.1 < 0 then (if x0 < 0 then ((scribelaw05_size.f x1).bind fun t154 => (if (wrap64 (-bt147.1)) ≥ t154 then (scribelaw05_NumParts.j1 k x0 x1 bt147.1 bt150.1 bt150.2 true) else (if bt147.1 > 0 then (scribelaw05_NumParts.j1 k x0 x1 bt147.1 bt150.1 bt150.2 (decide (bt147.1 ≥ t154))) else (scribelaw05_NumParts.j1 k x0 x1 bt147.1 bt150.1 bt150.2 false)))) else (scribelaw05_NumParts.j1 k x0 x1 bt147.1 bt150.1 bt150.2 true)) else (if x0 < 0 then (scribelaw05_NumParts.j1 k x0 x1 bt147.1 bt150.1 bt150.2 true) else (if bt147.1 > 0 then ((scribelaw05_size.f x1).bind fun t155 => (scribelaw05_NumParts.j1 k x0 x1 bt147.1 bt150.1 bt150.2 (decide (bt147.1 ≥ t155)))) else (scribelaw05_NumParts.j1 k x0 x1 bt147.1 bt150.1 bt150.2 false))))) else (scribelaw05_NumParts.j1 k x0 x1 bt147.1 bt150.1 bt150.2 true)))))
def scribelaw05_NumParts.j1 : Nat → Int → Int → Int → Int → Int → Bool → Option (Bool)
  | 0, _, _, _, _, _, _ => none
  | k + 1, x0, x1, x5, x7, x8, x68 => if x68 = true then (some false) else (if x0 = (-1) then (if x8 = 16 then (if x0 ≥ 0 then (if x7 < 0 then (some false) else (if x7 > 1000000 then (some false) else ((scribelaw05_awake.f k).bind fun t156 => (if t156 = true then (if x1 = 0 then (none) else (some ((Int.tmod (wrap64 (x0 - x5)) x1) == 0))) else (some false))))) else ((scribelaw05_awake.f k).bind fun t157 => (if t157 = true then (if x1 = 0 then (none) else (some ((Int.tmod (wrap64 (x0 - x5)) x1) == 0))) else (some false)))) else (some false)) else (if x0 ≥ 0 then (if x7 < 0 then (some false) else (if x7 > 1000000 then (some false) else ((scribelaw05_awake.f k).bind fun t158 => (if t158 = true then (if x1 = 0 then (none) else (some ((Int.tmod (wrap64 (x0 - x5)) x1) == 0))) else (some false))))) else ((scribelaw05_awake.f k).bind fun t159 => (if t159 = true then (if x1 = 0 then (none) else (some ((Int.tmod (wrap64 (x0 - x5)) x1) == 0))) else (some false)))))
end
def scribelaw05_NumParts.f (k : Nat) (a0 : Int) (a1 : Int) : Option (Bool) := (scribelaw05_fit.f a0).bind fun t144 => (if t144 = true then ((scribelaw05_fit.f a1).bind fun t145 => (if t145 = true then (scribelaw05_NumParts.j0 k a0 a1 (a1 == 0)) else (scribelaw05_NumParts.j0 k a0 a1 true))) else (scribelaw05_NumParts.j0 k a0 a1 true))
theorem scribelaw05_NumParts.mono_l : ∀ k, (∀ y0 y1 y2, LeO (scribelaw05_NumParts.j0 k y0 y1 y2) (scribelaw05_NumParts.j0 (k + 1) y0 y1 y2)) ∧ (∀ y0 y1 y2 y3 y4 y5, LeO (scribelaw05_NumParts.j1 k y0 y1 y2 y3 y4 y5) (scribelaw05_NumParts.j1 (k + 1) y0 y1 y2 y3 y4 y5))
  | 0 => ⟨fun _ _ _ r h => by simp [scribelaw05_NumParts.j0] at h, fun _ _ _ _ _ _ r h => by simp [scribelaw05_NumParts.j1] at h⟩
  | k + 1 => by
    obtain ⟨ih0, ih1⟩ := scribelaw05_NumParts.mono_l k
    refine ⟨?_, ?_⟩
    · intro y0 y1 y2
      unfold scribelaw05_NumParts.j0
      repeat' first
      | (with_reducible exact ih0 _ _ _)
      | (with_reducible exact ih1 _ _ _ _ _ _)
      | (with_reducible exact num_Add.mono _ _ _)
      | (with_reducible exact num_Div.mono _ _ _)
      | (with_reducible exact scribelaw05_awake.mono _)
      | (with_reducible exact LeO.refl _)
      | (with_reducible exact LeO.none _)
      | (with_reducible refine LeO.ite ?_ ?_)
      | (with_reducible refine LeO.bind ?_ (fun _ => ?_))
      | exact ih0 _ _ _
      | exact ih1 _ _ _ _ _ _
      | exact num_Add.mono _ _ _
      | exact num_Div.mono _ _ _
      | exact scribelaw05_awake.mono _
      | exact LeO.none _
      | refine LeO.ite ?_ ?_
      | refine LeO.bind ?_ (fun _ => ?_)
    · intro y0 y1 y2 y3 y4 y5
      unfold scribelaw05_NumParts.j1
      repeat' first
      | (with_reducible exact ih0 _ _ _)
      | (with_reducible exact ih1 _ _ _ _ _ _)
      | (with_reducible exact num_Add.mono _ _ _)
      | (with_reducible exact num_Div.mono _ _ _)
      | (with_reducible exact scribelaw05_awake.mono _)
      | (with_reducible exact LeO.refl _)
      | (with_reducible exact LeO.none _)
      | (with_reducible refine LeO.ite ?_ ?_)
      | (with_reducible refine LeO.bind ?_ (fun _ => ?_))
      | exact ih0 _ _ _
      | exact ih1 _ _ _ _ _ _
      | exact num_Add.mono _ _ _
      | exact num_Div.mono _ _ _
      | exact scribelaw05_awake.mono _
      | exact LeO.none _
      | refine LeO.ite ?_ ?_
      | refine LeO.bind ?_ (fun _ => ?_)
theorem scribelaw05_NumParts.mono : ∀ a0 a1 k, LeO (scribelaw05_NumParts.f k a0 a1) (scribelaw05_NumParts.f (k + 1) a0 a1) := by
  intro a0 a1 k
  obtain ⟨ih0, ih1⟩ := scribelaw05_NumParts.mono_l k
  unfold scribelaw05_NumParts.f
  repeat' first
      | (with_reducible exact ih0 _ _ _)
      | (with_reducible exact ih1 _ _ _ _ _ _)
      | (with_reducible exact num_Add.mono _ _ _)
      | (with_reducible exact num_Div.mono _ _ _)
      | (with_reducible exact scribelaw05_awake.mono _)
      | (with_reducible exact LeO.refl _)
      | (with_reducible exact LeO.none _)
      | (with_reducible refine LeO.ite ?_ ?_)
      | (with_reducible refine LeO.bind ?_ (fun _ => ?_))
      | exact ih0 _ _ _
      | exact ih1 _ _ _ _ _ _
      | exact num_Add.mono _ _ _
      | exact num_Div.mono _ _ _
      | exact scribelaw05_awake.mono _
      | exact LeO.none _
      | refine LeO.ite ?_ ?_
      | refine LeO.bind ?_ (fun _ => ?_)
set_option maxHeartbeats 8000000 in
set_option maxRecDepth 100000 in
theorem scribelaw05_NumParts.calls (k : Nat) (a0 : Int) (a1 : Int) (r : Bool) (w : World) (hT : TB w) (h : scribelaw05_NumParts.f k a0 a1 = some r) :
    Calls Tryd.prog 4 #[.int .i64 a0, .int .i64 a1] w fun e w' => e = .returned (.bool r) ∧ Below w.heap.size w w' := by
  have HB := Aside0.mk (Below.refl w.heap.size w)
  have H : ((scribelaw05_fit.f a0).bind fun t144 => (if t144 = true then ((scribelaw05_fit.f a1).bind fun t145 => (if t145 = true then (scribelaw05_NumParts.j0 k a0 a1 (a1 == 0)) else (scribelaw05_NumParts.j0 k a0 a1 true))) else (scribelaw05_NumParts.j0 k a0 a1 true))) = some r := h
  clear h
  have HC3 := Aside0.mk H
  clear H
  go_enter Tryd.func4, Tryd.ntmps4
  go_upto_region 1 with (fail)
  go_cut [20] (fun v20 wc => ∃ (kq : Nat) (x20_2 : Bool), v20 = .bool x20_2 ∧ Aside0 (scribelaw05_NumParts.j0 kq a0 a1 x20_2 = some r) ∧ Aside0 (kq ≤ k) ∧ Aside0 (Below w.heap.size w wc))
  case first =>
    have H := HC3.out
    clear HC3
    replace H := Option.bind_eq_some_iff.mp H
    obtain ⟨t144, A40, H⟩ := H
    replace H : (if t144 = true then ((scribelaw05_fit.f a1).bind fun t145 => (if t145 = true then (scribelaw05_NumParts.j0 k a0 a1 (a1 == 0)) else (scribelaw05_NumParts.j0 k a0 a1 true))) else (scribelaw05_NumParts.j0 k a0 a1 true)) = some r := H
    have A4 := Aside0.mk A40
    clear A40
    by_cases c5 : t144 = true
    · subst c5
      have H1 : ((scribelaw05_fit.f a1).bind fun t145 => (if t145 = true then (scribelaw05_NumParts.j0 k a0 a1 (a1 == 0)) else (scribelaw05_NumParts.j0 k a0 a1 true))) = some r := by rw [if_pos rfl] at H; exact H
      clear H
      have H := H1
      clear H1
      replace H := Option.bind_eq_some_iff.mp H
      obtain ⟨t145, A60, H⟩ := H
      replace H : (if t145 = true then (scribelaw05_NumParts.j0 k a0 a1 (a1 == 0)) else (scribelaw05_NumParts.j0 k a0 a1 true)) = some r := H
      have A6 := Aside0.mk A60
      clear A60
      by_cases c7 : t145 = true
      · subst c7
        have H1 : (scribelaw05_NumParts.j0 k a0 a1 (a1 == 0)) = some r := by rw [if_pos rfl] at H; exact H
        clear H
        have H := H1
        clear H1
        have H' := Aside0.mk H
        clear H
        go_wp2_with (first | ((with_reducible refine gate_callee (f := 12) rfl ?_); refine goesL_ (some 10) rfl rfl Tryd.func12 (by kernel_rfl) rfl #[.int .i64 a0] rfl (by (try simp only [List.map_toArray, List.map_cons, List.map_nil]); first | done | rfl | (simp only [List.length_drop, List.length_take]; rfl)) ?_; (with_reducible refine (scribelaw05_fit.calls a0 true _ ?side1 A4.out).mono ?_); (case side1 => exact TB.below hT (by repeat (first | (with_reducible first | exact HB.out | apply below_alloc | apply pw_below_drewN | apply below_drew1) | exact HB.out))); rintro e w' ⟨rfl, ⟨nd, rfl⟩⟩; refine ⟨_, rfl, ?_⟩) | (go_at_call 12; (with_reducible refine (scribelaw05_fit.calls a1 true _ ?side1 A6.out).mono ?_); (case side1 => exact TB.below hT (by repeat (first | (with_reducible first | exact HB.out | apply below_alloc | apply pw_below_drewN | apply below_drew1) | exact HB.out))); rintro e w' ⟨rfl, ⟨nd, rfl⟩⟩))
        go_meet
        case rel => exact ⟨_, ((a1 == 0)), (by first | rfl | (simp; done) | (simp [*]; done) | (simp; unfold wrap64; omega)), H', ⟨by first | omega | exact Nat.le_refl _⟩, ⟨by repeat (first | (with_reducible first | exact HB.out | apply below_alloc | apply pw_below_drewN | apply below_drew1) | exact HB.out)⟩⟩
      · replace c7 := Bool.eq_false_iff.mpr c7
        subst c7
        have H1 : (scribelaw05_NumParts.j0 k a0 a1 true) = some r := by rw [if_neg (show ¬ (false = true) by decide)] at H; exact H
        clear H
        have H := H1
        clear H1
        have H' := Aside0.mk H
        clear H
        go_wp2_with (first | ((with_reducible refine gate_callee (f := 12) rfl ?_); refine goesL_ (some 10) rfl rfl Tryd.func12 (by kernel_rfl) rfl #[.int .i64 a0] rfl (by (try simp only [List.map_toArray, List.map_cons, List.map_nil]); first | done | rfl | (simp only [List.length_drop, List.length_take]; rfl)) ?_; (with_reducible refine (scribelaw05_fit.calls a0 true _ ?side1 A4.out).mono ?_); (case side1 => exact TB.below hT (by repeat (first | (with_reducible first | exact HB.out | apply below_alloc | apply pw_below_drewN | apply below_drew1) | exact HB.out))); rintro e w' ⟨rfl, ⟨nd, rfl⟩⟩; refine ⟨_, rfl, ?_⟩) | (go_at_call 12; (with_reducible refine (scribelaw05_fit.calls a1 false _ ?side1 A6.out).mono ?_); (case side1 => exact TB.below hT (by repeat (first | (with_reducible first | exact HB.out | apply below_alloc | apply pw_below_drewN | apply below_drew1) | exact HB.out))); rintro e w' ⟨rfl, ⟨nd, rfl⟩⟩))
        go_meet
        case rel => exact ⟨_, (true), (by first | rfl | (simp; done) | (simp [*]; done) | (simp; unfold wrap64; omega)), H', ⟨by first | omega | exact Nat.le_refl _⟩, ⟨by repeat (first | (with_reducible first | exact HB.out | apply below_alloc | apply pw_below_drewN | apply below_drew1) | exact HB.out)⟩⟩
    · replace c5 := Bool.eq_false_iff.mpr c5
      subst c5
      have H1 : (scribelaw05_NumParts.j0 k a0 a1 true) = some r := by rw [if_neg (show ¬ (false = true) by decide)] at H; exact H
      clear H
      have H := H1
      clear H1
      have H' := Aside0.mk H
      clear H
      go_wp2_with (first | ((with_reducible refine gate_callee (f := 12) rfl ?_); refine goesL_ (some 10) rfl rfl Tryd.func12 (by kernel_rfl) rfl #[.int .i64 a0] rfl (by (try simp only [List.map_toArray, List.map_cons, List.map_nil]); first | done | rfl | (simp only [List.length_drop, List.length_take]; rfl)) ?_; (with_reducible refine (scribelaw05_fit.calls a0 false _ ?side1 A4.out).mono ?_); (case side1 => exact TB.below hT (by repeat (first | (with_reducible first | exact HB.out | apply below_alloc | apply pw_below_drewN | apply below_drew1) | exact HB.out))); rintro e w' ⟨rfl, ⟨nd, rfl⟩⟩; refine ⟨_, rfl, ?_⟩))
      go_meet
      case rel => exact ⟨_, (true), (by first | rfl | (simp; done) | (simp [*]; done) | (simp; unfold wrap64; omega)), H', ⟨by first | omega | exact Nat.le_refl _⟩, ⟨by repeat (first | (with_reducible first | exact HB.out | apply below_alloc | apply pw_below_drewN | apply below_drew1) | exact HB.out)⟩⟩
  case rest =>
    clear HC3
    try clear c1
    try clear p2
    try clear c4
    try clear c5
    try clear p6
    try clear c7
    obtain ⟨kq, x20_2, rfl, HA, HJ2, HB⟩ := hcut
    cases kq with
    | zero => exact absurd HA.out (by simp [scribelaw05_NumParts.j0])
    | succ kj2 =>
      have H := HA.out
      clear HA
      simp only [scribelaw05_NumParts.j0] at H
      by_cases c8 : x20_2 = true
      · subst c8
        have H1 : ((scribelaw05_awake.f kj2).bind fun t146 => (some t146)) = some r := by rw [if_pos rfl] at H; exact H
        clear H
        have H := H1
        clear H1
        replace H := Option.bind_eq_some_iff.mp H
        obtain ⟨t146, A90, H⟩ := H
        replace H : (some t146) = some r := H
        have A9 := Aside0.mk A90
        clear A90
        obtain rfl := Option.some.inj H
        go_wp2_with (first | ((with_reducible refine gate_callee (f := 13) rfl ?_); refine goesL_ (some 21) rfl rfl Tryd.func13 (by kernel_rfl) rfl #[] rfl (by (try simp only [List.map_toArray, List.map_cons, List.map_nil]); first | done | rfl | (simp only [List.length_drop, List.length_take]; rfl)) ?_; (with_reducible refine (scribelaw05_awake.calls kj2  t146 _ ?side1 A9.out).mono ?_); (case side1 => exact TB.below hT (by repeat (first | (with_reducible first | exact HB.out | apply below_alloc | apply pw_below_drewN | apply below_drew1) | exact HB.out))); rintro e w10 ⟨rfl, hb⟩; refine ⟨_, rfl, ?_⟩; have n0_ := Aside0.mk (below_step (by repeat (first | (with_reducible first | exact HB.out | apply below_alloc | apply pw_below_drewN | apply below_drew1) | exact HB.out)) hb); clear HB; have HB := n0_; clear n0_; (try clear hb); (try clear hb2); (try clear hk); (try clear hi)))
        go_ret
        exact ⟨by first | rfl | (simp [errW_none, errW_some] <;> rfl) | (simp [*, errW_none, errW_some] <;> rfl), by repeat (first | (with_reducible first | exact HB.out | apply below_alloc | apply pw_below_drewN | apply below_drew1) | exact HB.out)⟩
      · replace c8 := Bool.eq_false_iff.mpr c8
        subst c8
        have H1 : ((num_Mod.f a0 a1).bind fun bt147 => ((num_Add.f kj2 a0 1).bind fun t149 => ((num_Div.f kj2 a0 t149).bind fun bt150 => (if bt147.2 = 0 then (if bt147.1 = 0 then (if bt147.1 < 0 then ((scribelaw05_size.f a1).bind fun t152 => (if (wrap64 (-bt147.1)) ≥ t152 then (scribelaw05_NumParts.j1 kj2 a0 a1 bt147.1 bt150.1 bt150.2 true) else (if bt147.1 > 0 then (scribelaw05_NumParts.j1 kj2 a0 a1 bt147.1 bt150.1 bt150.2 (decide (bt147.1 ≥ t152))) else (scribelaw05_NumParts.j1 kj2 a0 a1 bt147.1 bt150.1 bt150.2 false)))) else (if bt147.1 > 0 then ((scribelaw05_size.f a1).bind fun t153 => (scribelaw05_NumParts.j1 kj2 a0 a1 bt147.1 bt150.1 bt150.2 (decide (bt147.1 ≥ t153)))) else (scribelaw05_NumParts.j1 kj2 a0 a1 bt147.1 bt150.1 bt150.2 false))) else (if bt147.1 < 0 then (if a0 < 0 then ((scribelaw05_size.f a1).bind fun t154 => (if (wrap64 (-bt147.1)) ≥ t154 then (scribelaw05_NumParts.j1 kj2 a0 a1 bt147.1 bt150.1 bt150.2 true) else (if bt147.1 > 0 then (scribelaw05_NumParts.j1 kj2 a0 a1 bt147.1 bt150.1 bt150.2 (decide (bt147.1 ≥ t154))) else (scribelaw05_NumParts.j1 kj2 a0 a1 bt147.1 bt150.1 bt150.2 false)))) else (scribelaw05_NumParts.j1 kj2 a0 a1 bt147.1 bt150.1 bt150.2 true)) else (if a0 < 0 then (scribelaw05_NumParts.j1 kj2 a0 a1 bt147.1 bt150.1 bt150.2 true) else (if bt147.1 > 0 then ((scribelaw05_size.f a1).bind fun t155 => (scribelaw05_NumParts.j1 kj2 a0 a1 bt147.1 bt150.1 bt150.2 (decide (bt147.1 ≥ t155)))) else (scribelaw05_NumParts.j1 kj2 a0 a1 bt147.1 bt150.1 bt150.2 false))))) else (scribelaw05_NumParts.j1 kj2 a0 a1 bt147.1 bt150.1 bt150.2 true))))) = some r := by rw [if_neg (show ¬ (false = true) by decide)] at H; exact H
        clear H
        have H := H1
        clear H1
        replace H := Option.bind_eq_some_iff.mp H
        obtain ⟨⟨t147, t148⟩, A110, H⟩ := H
        replace H : ((num_Add.f kj2 a0 1).bind fun t149 => ((num_Div.f kj2 a0 t149).bind fun bt150 => (if t148 = 0 then (if t147 = 0 then (if t147 < 0 then ((scribelaw05_size.f a1).bind fun t152 => (if (wrap64 (-t147)) ≥ t152 then (scribelaw05_NumParts.j1 kj2 a0 a1 t147 bt150.1 bt150.2 true) else (if t147 > 0 then (scribelaw05_NumParts.j1 kj2 a0 a1 t147 bt150.1 bt150.2 (decide (t147 ≥ t152))) else (scribelaw05_NumParts.j1 kj2 a0 a1 t147 bt150.1 bt150.2 false)))) else (if t147 > 0 then ((scribelaw05_size.f a1).bind fun t153 => (scribelaw05_NumParts.j1 kj2 a0 a1 t147 bt150.1 bt150.2 (decide (t147 ≥ t153)))) else (scribelaw05_NumParts.j1 kj2 a0 a1 t147 bt150.1 bt150.2 false))) else (if t147 < 0 then (if a0 < 0 then ((scribelaw05_size.f a1).bind fun t154 => (if (wrap64 (-t147)) ≥ t154 then (scribelaw05_NumParts.j1 kj2 a0 a1 t147 bt150.1 bt150.2 true) else (if t147 > 0 then (scribelaw05_NumParts.j1 kj2 a0 a1 t147 bt150.1 bt150.2 (decide (t147 ≥ t154))) else (scribelaw05_NumParts.j1 kj2 a0 a1 t147 bt150.1 bt150.2 false)))) else (scribelaw05_NumParts.j1 kj2 a0 a1 t147 bt150.1 bt150.2 true)) else (if a0 < 0 then (scribelaw05_NumParts.j1 kj2 a0 a1 t147 bt150.1 bt150.2 true) else (if t147 > 0 then ((scribelaw05_size.f a1).bind fun t155 => (scribelaw05_NumParts.j1 kj2 a0 a1 t147 bt150.1 bt150.2 (decide (t147 ≥ t155)))) else (scribelaw05_NumParts.j1 kj2 a0 a1 t147 bt150.1 bt150.2 false))))) else (scribelaw05_NumParts.j1 kj2 a0 a1 t147 bt150.1 bt150.2 true)))) = some r := H
        have A11 := Aside0.mk A110
        clear A110
        replace H := Option.bind_eq_some_iff.mp H
        obtain ⟨t149, A120, H⟩ := H
        replace H : ((num_Div.f kj2 a0 t149).bind fun bt150 => (if t148 = 0 then (if t147 = 0 then (if t147 < 0 then ((scribelaw05_size.f a1).bind fun t152 => (if (wrap64 (-t147)) ≥ t152 then (scribelaw05_NumParts.j1 kj2 a0 a1 t147 bt150.1 bt150.2 true) else (if t147 > 0 then (scribelaw05_NumParts.j1 kj2 a0 a1 t147 bt150.1 bt150.2 (decide (t147 ≥ t152))) else (scribelaw05_NumParts.j1 kj2 a0 a1 t147 bt150.1 bt150.2 false)))) else (if t147 > 0 then ((scribelaw05_size.f a1).bind fun t153 => (scribelaw05_NumParts.j1 kj2 a0 a1 t147 bt150.1 bt150.2 (decide (t147 ≥ t153)))) else (scribelaw05_NumParts.j1 kj2 a0 a1 t147 bt150.1 bt150.2 false))) else (if t147 < 0 then (if a0 < 0 then ((scribelaw05_size.f a1).bind fun t154 => (if (wrap64 (-t147)) ≥ t154 then (scribelaw05_NumParts.j1 kj2 a0 a1 t147 bt150.1 bt150.2 true) else (if t147 > 0 then (scribelaw05_NumParts.j1 kj2 a0 a1 t147 bt150.1 bt150.2 (decide (t147 ≥ t154))) else (scribelaw05_NumParts.j1 kj2 a0 a1 t147 bt150.1 bt150.2 false)))) else (scribelaw05_NumParts.j1 kj2 a0 a1 t147 bt150.1 bt150.2 true)) else (if a0 < 0 then (scribelaw05_NumParts.j1 kj2 a0 a1 t147 bt150.1 bt150.2 true) else (if t147 > 0 then ((scribelaw05_size.f a1).bind fun t155 => (scribelaw05_NumParts.j1 kj2 a0 a1 t147 bt150.1 bt150.2 (decide (t147 ≥ t155)))) else (scribelaw05_NumParts.j1 kj2 a0 a1 t147 bt150.1 bt150.2 false))))) else (scribelaw05_NumParts.j1 kj2 a0 a1 t147 bt150.1 bt150.2 true))) = some r := H
        have A12 := Aside0.mk A120
        clear A120
        replace H := Option.bind_eq_some_iff.mp H
        obtain ⟨⟨t150, t151⟩, A130, H⟩ := H
        replace H : (if t148 = 0 then (if t147 = 0 then (if t147 < 0 then ((scribelaw05_size.f a1).bind fun t152 => (if (wrap64 (-t147)) ≥ t152 then (scribelaw05_NumParts.j1 kj2 a0 a1 t147 t150 t151 true) else (if t147 > 0 then (scribelaw05_NumParts.j1 kj2 a0 a1 t147 t150 t151 (decide (t147 ≥ t152))) else (scribelaw05_NumParts.j1 kj2 a0 a1 t147 t150 t151 false)))) else (if t147 > 0 then ((scribelaw05_size.f a1).bind fun t153 => (scribelaw05_NumParts.j1 kj2 a0 a1 t147 t150 t151 (decide (t147 ≥ t153)))) else (scribelaw05_NumParts.j1 kj2 a0 a1 t147 t150 t151 false))) else (if t147 < 0 then (if a0 < 0 then ((scribelaw05_size.f a1).bind fun t154 => (if (wrap64 (-t147)) ≥ t154 then (scribelaw05_NumParts.j1 kj2 a0 a1 t147 t150 t151 true) else (if t147 > 0 then (scribelaw05_NumParts.j1 kj2 a0 a1 t147 t150 t151 (decide (t147 ≥ t154))) else (scribelaw05_NumParts.j1 kj2 a0 a1 t147 t150 t151 false)))) else (scribelaw05_NumParts.j1 kj2 a0 a1 t147 t150 t151 true)) else (if a0 < 0 then (scribelaw05_NumParts.j1 kj2 a0 a1 t147 t150 t151 true) else (if t147 > 0 then ((scribelaw05_size.f a1).bind fun t155 => (scribelaw05_NumParts.j1 kj2 a0 a1 t147 t150 t151 (decide (t147 ≥ t155)))) else (scribelaw05_NumParts.j1 kj2 a0 a1 t147 t150 t151 false))))) else (scribelaw05_NumParts.j1 kj2 a0 a1 t147 t150 t151 true)) = some r := H
        have A13 := Aside0.mk A130
        clear A130
        have HC14 := Aside0.mk H
        clear H
        go_upto_region 5 with (first | ((with_reducible refine gate_callee (f := 16) rfl ?_); refine goesL_ (some 25) rfl rfl Tryd.func16 (by kernel_rfl) rfl #[.int .i64 a0, .int .i64 a1] rfl (by (try simp only [List.map_toArray, List.map_cons, List.map_nil]); first | done | rfl | (simp only [List.length_drop, List.length_take]; rfl)) ?_; (with_reducible refine (num_Mod.calls a0 a1 t147 t148 _ ?side1 A11.out).mono ?_); (case side1 => exact TB.below hT (by repeat (first | (with_reducible first | exact HB.out | apply below_alloc | apply pw_below_drewN | apply below_drew1) | exact HB.out))); rintro e w' ⟨rfl, ⟨nd, rfl⟩⟩; refine ⟨_, rfl, ?_⟩) | ((with_reducible refine gate_callee (f := 14) rfl ?_); refine goesL_ (some 31) rfl rfl Tryd.func14 (by kernel_rfl) rfl #[.int .i64 a0, .int .i64 1] rfl (by (try simp only [List.map_toArray, List.map_cons, List.map_nil]); first | done | rfl | (simp only [List.length_drop, List.length_take]; rfl)) ?_; (with_reducible refine (num_Add.calls kj2 a0 1 t149 _ ?side1 A12.out).mono ?_); (case side1 => exact TB.below hT (by repeat (first | (with_reducible first | exact HB.out | apply below_alloc | apply pw_below_drewN | apply below_drew1) | exact HB.out))); rintro e w' ⟨rfl, ⟨nd, rfl⟩⟩; refine ⟨_, rfl, ?_⟩) | ((with_reducible refine gate_callee (f := 17) rfl ?_); refine goesL_ (some 32) rfl rfl Tryd.func17 (by kernel_rfl) rfl #[.int .i64 a0, .int .i64 t149] rfl (by (try simp only [List.map_toArray, List.map_cons, List.map_nil]); first | done | rfl | (simp only [List.length_drop, List.length_take]; rfl)) ?_; (with_reducible refine (num_Div.calls kj2 a0 t149 t150 t151 _ ?side1 A13.out).mono ?_); (case side1 => exact TB.below hT (by repeat (first | (with_reducible first | exact HB.out | apply below_alloc | apply pw_below_drewN | apply below_drew1) | exact HB.out))); rintro e w' ⟨rfl, ⟨nd, rfl⟩⟩; refine ⟨_, rfl, ?_⟩))
        (try simp only [Act.put, List.setIfInBounds_toArray, List.set_cons_zero, List.set_cons_succ])
        go_cut [68] (fun v68 wc => ∃ (kq : Nat) (x68_13 : Bool), v68 = .bool x68_13 ∧ Aside0 (scribelaw05_NumParts.j1 kq a0 a1 t147 t150 t151 x68_13 = some r) ∧ Aside0 (kq ≤ kj2) ∧ Aside0 (Below w.heap.size w wc))
        case first =>
          have H := HC14.out
          clear HC14
          by_cases c15 : t148 = 0
          · rw [if_pos c15] at H
            have c15b0 : (t148 == 0) = true := beq_iff_eq.mpr c15
            have c15b1 : (t148 != 0) = false := bne_eq_false_iff_eq.mpr c15
            clear c15
            (first | rw [c15b0] | (simp only [i64_w, i32_w]; rw [c15b0]) | skip)
            by_cases c16 : t147 = 0
            · rw [if_pos c16] at H
              have c16b0 : (t147 == 0) = true := beq_iff_eq.mpr c16
              have c16b1 : (t147 != 0) = false := bne_eq_false_iff_eq.mpr c16
              clear c16
              by_cases c17 : t147 < 0
              · rw [if_pos c17] at H
                have c17b0 : decide (t147 < 0) = true := decide_eq_true c17
                clear c17
                replace H := Option.bind_eq_some_iff.mp H
                obtain ⟨t152, A180, H⟩ := H
                replace H : (if (wrap64 (-t147)) ≥ t152 then (scribelaw05_NumParts.j1 kj2 a0 a1 t147 t150 t151 true) else (if t147 > 0 then (scribelaw05_NumParts.j1 kj2 a0 a1 t147 t150 t151 (decide (t147 ≥ t152))) else (scribelaw05_NumParts.j1 kj2 a0 a1 t147 t150 t151 false))) = some r := H
                have A18 := Aside0.mk A180
                clear A180
                by_cases c19 : (wrap64 (-t147)) ≥ t152
                · rw [if_pos c19] at H
                  have c19b0 : decide (t152 ≤ (wrap64 (-t147))) = true := decide_eq_true c19
                  clear c19
                  have H' := Aside0.mk H
                  clear H
                  go_wp2_with (first | (go_at_call 18; (with_reducible refine (scribelaw05_size.calls a1 t152 _ ?side1 A18.out).mono ?_); (case side1 => exact TB.below hT (by repeat (first | (with_reducible first | exact HB.out | apply below_alloc | apply pw_below_drewN | apply below_drew1) | exact HB.out))); rintro e w' ⟨rfl, ⟨nd, rfl⟩⟩))
                  go_meet
                  case rel => exact ⟨_, (true), (by first | rfl | (simp; done) | (simp [*]; done) | (simp; unfold wrap64; omega)), H', ⟨by have := HJ2.out; first | omega | exact Nat.le_refl _⟩, ⟨by repeat (first | (with_reducible first | exact HB.out | apply below_alloc | apply pw_below_drewN | apply below_drew1) | exact HB.out)⟩⟩
                · rw [if_neg c19] at H
                  have c19b0 : decide (t152 ≤ (wrap64 (-t147))) = false := decide_eq_false c19
                  clear c19
                  by_cases c20 : t147 > 0
                  · rw [if_pos c20] at H
                    have c20b0 : decide (0 < t147) = true := decide_eq_true c20
                    clear c20
                    have H' := Aside0.mk H
                    clear H
                    go_wp2_with (first | (go_at_call 18; (with_reducible refine (scribelaw05_size.calls a1 t152 _ ?side1 A18.out).mono ?_); (case side1 => exact TB.below hT (by repeat (first | (with_reducible first | exact HB.out | apply below_alloc | apply pw_below_drewN | apply below_drew1) | exact HB.out))); rintro e w' ⟨rfl, ⟨nd, rfl⟩⟩))
                    go_meet
                    case rel => exact ⟨_, (decide (t147 ≥ t152)), (by first | rfl | (simp; done) | (simp [*]; done) | (simp; unfold wrap64; omega)), H', ⟨by have := HJ2.out; first | omega | exact Nat.le_refl _⟩, ⟨by repeat (first | (with_reducible first | exact HB.out | apply below_alloc | apply pw_below_drewN | apply below_drew1) | exact HB.out)⟩⟩
                  · rw [if_neg c20] at H
                    have c20b0 : decide (0 < t147) = false := decide_eq_false c20
                    clear c20
                    have H' := Aside0.mk H
                    clear H
                    go_wp2_with (first | (go_at_call 18; (with_reducible refine (scribelaw05_size.calls a1 t152 _ ?side1 A18.out).mono ?_); (case side1 => exact TB.below hT (by repeat (first | (with_reducible first | exact HB.out | apply below_alloc | apply pw_below_drewN | apply below_drew1) | exact HB.out))); rintro e w' ⟨rfl, ⟨nd, rfl⟩⟩))
                    go_meet
                    case rel => exact ⟨_, (false), (by first | rfl | (simp; done) | (simp [*]; done) | (simp; unfold wrap64; omega)), H', ⟨by have := HJ2.out; first | omega | exact Nat.le_refl _⟩, ⟨by repeat (first | (with_reducible first | exact HB.out | apply below_alloc | apply pw_below_drewN | apply below_drew1) | exact HB.out)⟩⟩
              · rw [if_neg c17] at H
                have c17b0 : decide (t147 < 0) = false := decide_eq_false c17
                clear c17
                by_cases c21 : t147 > 0
                · rw [if_pos c21] at H
                  have c21b0 : decide (0 < t147) = true := decide_eq_true c21
                  clear c21
                  replace H := Option.bind_eq_some_iff.mp H
                  obtain ⟨t153, A220, H⟩ := H
                  replace H : (scribelaw05_NumParts.j1 kj2 a0 a1 t147 t150 t151 (decide (t147 ≥ t153))) = some r := H
                  have A22 := Aside0.mk A220
                  clear A220
                  have H' := Aside0.mk H
                  clear H
                  go_wp2_with (first | (go_at_call 18; (with_reducible refine (scribelaw05_size.calls a1 t153 _ ?side1 A22.out).mono ?_); (case side1 => exact TB.below hT (by repeat (first | (with_reducible first | exact HB.out | apply below_alloc | apply pw_below_drewN | apply below_drew1) | exact HB.out))); rintro e w' ⟨rfl, ⟨nd, rfl⟩⟩))
                  go_meet
                  case rel => exact ⟨_, (decide (t147 ≥ t153)), (by first | rfl | (simp; done) | (simp [*]; done) | (simp; unfold wrap64; omega)), H', ⟨by have := HJ2.out; first | omega | exact Nat.le_refl _⟩, ⟨by repeat (first | (with_reducible first | exact HB.out | apply below_alloc | apply pw_below_drewN | apply below_drew1) | exact HB.out)⟩⟩
                · rw [if_neg c21] at H
                  have c21b0 : decide (0 < t147) = false := decide_eq_false c21
                  clear c21
                  have H' := Aside0.mk H
                  clear H
                  go_wp2
                  go_meet
                  case rel => exact ⟨_, (false), (by first | rfl | (simp; done) | (simp [*]; done) | (simp; unfold wrap64; omega)), H', ⟨by have := HJ2.out; first | omega | exact Nat.le_refl _⟩, ⟨by repeat (first | (with_reducible first | exact HB.out | apply below_alloc | apply pw_below_drewN | apply below_drew1) | exact HB.out)⟩⟩
            · rw [if_neg c16] at H
              have c16b0 : (t147 == 0) = false := beq_eq_false_iff_ne.mpr c16
              have c16b1 : (t147 != 0) = true := bne_iff_ne.mpr c16
              by_cases c23 : t147 < 0
              · rw [if_pos c23] at H
                have c23b0 : decide (t147 < 0) = true := decide_eq_true c23
                clear c23
                by_cases c24 : a0 < 0
                · rw [if_pos c24] at H
                  have c24b0 : decide (a0 < 0) = true := decide_eq_true c24
                  clear c24
                  replace H := Option.bind_eq_some_iff.mp H
                  obtain ⟨t154, A250, H⟩ := H
                  replace H : (if (wrap64 (-t147)) ≥ t154 then (scribelaw05_NumParts.j1 kj2 a0 a1 t147 t150 t151 true) else (if t147 > 0 then (scribelaw05_NumParts.j1 kj2 a0 a1 t147 t150 t151 (decide (t147 ≥ t154))) else (scribelaw05_NumParts.j1 kj2 a0 a1 t147 t150 t151 false))) = some r := H
                  have A25 := Aside0.mk A250
                  clear A250
                  by_cases c26 : (wrap64 (-t147)) ≥ t154
                  · rw [if_pos c26] at H
                    have c26b0 : decide (t154 ≤ (wrap64 (-t147))) = true := decide_eq_true c26
                    clear c26
                    have H' := Aside0.mk H
                    clear H
                    go_wp2_with (first | (go_at_call 18; (with_reducible refine (scribelaw05_size.calls a1 t154 _ ?side1 A25.out).mono ?_); (case side1 => exact TB.below hT (by repeat (first | (with_reducible first | exact HB.out | apply below_alloc | apply pw_below_drewN | apply below_drew1) | exact HB.out))); rintro e w' ⟨rfl, ⟨nd, rfl⟩⟩))
                    go_meet
                    case rel => exact ⟨_, (true), (by first | rfl | (simp; done) | (simp [*]; done) | (simp; unfold wrap64; omega)), H', ⟨by have := HJ2.out; first | omega | exact Nat.le_refl _⟩, ⟨by repeat (first | (with_reducible first | exact HB.out | apply below_alloc | apply pw_below_drewN | apply below_drew1) | exact HB.out)⟩⟩
                  · rw [if_neg c26] at H
                    have c26b0 : decide (t154 ≤ (wrap64 (-t147))) = false := decide_eq_false c26
                    clear c26
                    by_cases c27 : t147 > 0
                    · rw [if_pos c27] at H
                      have c27b0 : decide (0 < t147) = true := decide_eq_true c27
                      clear c27
                      have H' := Aside0.mk H
                      clear H
                      go_wp2_with (first | (go_at_call 18; (with_reducible refine (scribelaw05_size.calls a1 t154 _ ?side1 A25.out).mono ?_); (case side1 => exact TB.below hT (by repeat (first | (with_reducible first | exact HB.out | apply below_alloc | apply pw_below_drewN | apply below_drew1) | exact HB.out))); rintro e w' ⟨rfl, ⟨nd, rfl⟩⟩))
                      go_meet
                      case rel => exact ⟨_, (decide (t147 ≥ t154)), (by first | rfl | (simp; done) | (simp [*]; done) | (simp; unfold wrap64; omega)), H', ⟨by have := HJ2.out; first | omega | exact Nat.le_refl _⟩, ⟨by repeat (first | (with_reducible first | exact HB.out | apply below_alloc | apply pw_below_drewN | apply below_drew1) | exact HB.out)⟩⟩
                    · rw [if_neg c27] at H
                      have c27b0 : decide (0 < t147) = false := decide_eq_false c27
                      clear c27
                      have H' := Aside0.mk H
                      clear H
                      go_wp2_with (first | (go_at_call 18; (with_reducible refine (scribelaw05_size.calls a1 t154 _ ?side1 A25.out).mono ?_); (case side1 => exact TB.below hT (by repeat (first | (with_reducible first | exact HB.out | apply below_alloc | apply pw_below_drewN | apply below_drew1) | exact HB.out))); rintro e w' ⟨rfl, ⟨nd, rfl⟩⟩))
                      go_meet
                      case rel => exact ⟨_, (false), (by first | rfl | (simp; done) | (simp [*]; done) | (simp; unfold wrap64; omega)), H', ⟨by have := HJ2.out; first | omega | exact Nat.le_refl _⟩, ⟨by repeat (first | (with_reducible first | exact HB.out | apply below_alloc | apply pw_below_drewN | apply below_drew1) | exact HB.out)⟩⟩
                · rw [if_neg c24] at H
                  have c24b0 : decide (a0 < 0) = false := decide_eq_false c24
                  clear c24
                  have H' := Aside0.mk H
                  clear H
                  go_wp2
                  go_meet
                  case rel => exact ⟨_, (true), (by first | rfl | (simp; done) | (simp [*]; done) | (simp; unfold wrap64; omega)), H', ⟨by have := HJ2.out; first | omega | exact Nat.le_refl _⟩, ⟨by repeat (first | (with_reducible first | exact HB.out | apply below_alloc | apply pw_below_drewN | apply below_drew1) | exact HB.out)⟩⟩
              · rw [if_neg c23] at H
                have c23b0 : decide (t147 < 0) = false := decide_eq_false c23
                clear c23
                by_cases c28 : a0 < 0
                · rw [if_pos c28] at H
                  have c28b0 : decide (a0 < 0) = true := decide_eq_true c28
                  clear c28
                  have H' := Aside0.mk H
                  clear H
                  go_wp2
                  go_meet
                  case rel => exact ⟨_, (true), (by first | rfl | (simp; done) | (simp [*]; done) | (simp; unfold wrap64; omega)), H', ⟨by have := HJ2.out; first | omega | exact Nat.le_refl _⟩, ⟨by repeat (first | (with_reducible first | exact HB.out | apply below_alloc | apply pw_below_drewN | apply below_drew1) | exact HB.out)⟩⟩
                · rw [if_neg c28] at H
                  have c28b0 : decide (a0 < 0) = false := decide_eq_false c28
                  clear c28
                  by_cases c29 : t147 > 0
                  · rw [if_pos c29] at H
                    have c29b0 : decide (0 < t147) = true := decide_eq_true c29
                    clear c29
                    replace H := Option.bind_eq_some_iff.mp H
                    obtain ⟨t155, A300, H⟩ := H
                    replace H : (scribelaw05_NumParts.j1 kj2 a0 a1 t147 t150 t151 (decide (t147 ≥ t155))) = some r := H
                    have A30 := Aside0.mk A300
                    clear A300
                    have H' := Aside0.mk H
                    clear H
                    go_wp2_with (first | (go_at_call 18; (with_reducible refine (scribelaw05_size.calls a1 t155 _ ?side1 A30.out).mono ?_); (case side1 => exact TB.below hT (by repeat (first | (with_reducible first | exact HB.out | apply below_alloc | apply pw_below_drewN | apply below_drew1) | exact HB.out))); rintro e w' ⟨rfl, ⟨nd, rfl⟩⟩))
                    go_meet
                    case rel => exact ⟨_, (decide (t147 ≥ t155)), (by first | rfl | (simp; done) | (simp [*]; done) | (simp; unfold wrap64; omega)), H', ⟨by have := HJ2.out; first | omega | exact Nat.le_refl _⟩, ⟨by repeat (first | (with_reducible first | exact HB.out | apply below_alloc | apply pw_below_drewN | apply below_drew1) | exact HB.out)⟩⟩
                  · rw [if_neg c29] at H
                    have c29b0 : decide (0 < t147) = false := decide_eq_false c29
                    clear c29
                    have H' := Aside0.mk H
                    clear H
                    go_wp2
                    go_meet
                    case rel => exact ⟨_, (false), (by first | rfl | (simp; done) | (simp [*]; done) | (simp; unfold wrap64; omega)), H', ⟨by have := HJ2.out; first | omega | exact Nat.le_refl _⟩, ⟨by repeat (first | (with_reducible first | exact HB.out | apply below_alloc | apply pw_below_drewN | apply below_drew1) | exact HB.out)⟩⟩
          · rw [if_neg c15] at H
            have c15b0 : (t148 == 0) = false := beq_eq_false_iff_ne.mpr c15
            have c15b1 : (t148 != 0) = true := bne_iff_ne.mpr c15
            (first | rw [c15b0] | (simp only [i64_w, i32_w]; rw [c15b0]) | skip)
            have H' := Aside0.mk H
            clear H
            go_wp2
            go_meet
            case rel => exact ⟨_, (true), (by first | rfl | (simp; done) | (simp [*]; done) | (simp; unfold wrap64; omega)), H', ⟨by have := HJ2.out; first | omega | exact Nat.le_refl _⟩, ⟨by repeat (first | (with_reducible first | exact HB.out | apply below_alloc | apply pw_below_drewN | apply below_drew1) | exact HB.out)⟩⟩
        case rest =>
          clear HC14
          try clear c1
          try clear c2
          try clear p2
          try clear c4
          try clear c5
          try clear p6
          try clear c7
          try clear c8
          try clear c12
          try clear c13
          try clear c14
          try clear c15
          try clear c15b0
          try clear c15b1
          try clear c16
          try clear c16b0
          try clear c16b1
          try clear c17
          try clear c17b0
          try clear c19
          try clear c19b0
          try clear c20
          try clear c20b0
          try clear c21
          try clear c21b0
          try clear c23
          try clear c23b0
          try clear c24
          try clear c24b0
          try clear c26
          try clear c26b0
          try clear c27
          try clear c27b0
          try clear c28
          try clear c28b0
          try clear c29
          try clear c29b0
          try clear p2
          try clear p6
          obtain ⟨kq, x68_13, rfl, HA, HJ13, HB⟩ := hcut
          cases kq with
          | zero => exact absurd HA.out (by simp [scribelaw05_NumParts.j1])
          | succ kj13 =>
            have H := HA.out
            clear HA
            simp only [scribelaw05_NumParts.j1] at H
            by_cases c31 : x68_13 = true
            · subst c31
              have H1 : (some false) = some r := by rw [if_pos rfl] at H; exact H
              clear H
              have H := H1
              clear H1
              obtain rfl := Option.some.inj H
              go_wp2
              go_ret
              exact ⟨by first | rfl | (simp [errW_none, errW_some] <;> rfl) | (simp [*, errW_none, errW_some] <;> rfl), by repeat (first | (with_reducible first | exact HB.out | apply below_alloc | apply pw_below_drewN | apply below_drew1) | exact HB.out)⟩
            · replace c31 := Bool.eq_false_iff.mpr c31
              subst c31
              have H1 : (if a0 = (-1) then (if t151 = 16 then (if a0 ≥ 0 then (if t150 < 0 then (some false) else (if t150 > 1000000 then (some false) else ((scribelaw05_awake.f kj13).bind fun t156 => (if t156 = true then (if a1 = 0 then (none) else (some ((Int.tmod (wrap64 (a0 - t147)) a1) == 0))) else (some false))))) else ((scribelaw05_awake.f kj13).bind fun t157 => (if t157 = true then (if a1 = 0 then (none) else (some ((Int.tmod (wrap64 (a0 - t147)) a1) == 0))) else (some false)))) else (some false)) else (if a0 ≥ 0 then (if t150 < 0 then (some false) else (if t150 > 1000000 then (some false) else ((scribelaw05_awake.f kj13).bind fun t158 => (if t158 = true then (if a1 = 0 then (none) else (some ((Int.tmod (wrap64 (a0 - t147)) a1) == 0))) else (some false))))) else ((scribelaw05_awake.f kj13).bind fun t159 => (if t159 = true then (if a1 = 0 then (none) else (some ((Int.tmod (wrap64 (a0 - t147)) a1) == 0))) else (some false))))) = some r := by rw [if_neg (show ¬ (false = true) by decide)] at H; exact H
              clear H
              have H := H1
              clear H1
              by_cases c32 : a0 = (-1)
              · rw [if_pos c32] at H
                have c32b0 : (a0 == (-1)) = true := beq_iff_eq.mpr c32
                have c32b1 : (a0 != (-1)) = false := bne_eq_false_iff_eq.mpr c32
                clear c32
                by_cases c33 : t151 = 16
                · rw [if_pos c33] at H
                  have c33b0 : (t151 == 16) = true := beq_iff_eq.mpr c33
                  have c33b1 : (t151 != 16) = false := bne_eq_false_iff_eq.mpr c33
                  clear c33
                  by_cases c34 : a0 ≥ 0
                  · rw [if_pos c34] at H
                    have c34b0 : decide (0 ≤ a0) = true := decide_eq_true c34
                    clear c34
                    by_cases c35 : t150 < 0
                    · rw [if_pos c35] at H
                      have c35b0 : decide (t150 < 0) = true := decide_eq_true c35
                      clear c35
                      obtain rfl := Option.some.inj H
                      go_wp2
                      go_ret
                      exact ⟨by first | rfl | (simp [errW_none, errW_some] <;> rfl) | (simp [*, errW_none, errW_some] <;> rfl), by repeat (first | (with_reducible first | exact HB.out | apply below_alloc | apply pw_below_drewN | apply below_drew1) | exact HB.out)⟩
                    · rw [if_neg c35] at H
                      have c35b0 : decide (t150 < 0) = false := decide_eq_false c35
                      clear c35
                      by_cases c36 : t150 > 1000000
                      · rw [if_pos c36] at H
                        have c36b0 : decide (1000000 < t150) = true := decide_eq_true c36
                        clear c36
                        obtain rfl := Option.some.inj H
                        go_wp2
                        go_ret
                        exact ⟨by first | rfl | (simp [errW_none, errW_some] <;> rfl) | (simp [*, errW_none, errW_some] <;> rfl), by repeat (first | (with_reducible first | exact HB.out | apply below_alloc | apply pw_below_drewN | apply below_drew1) | exact HB.out)⟩
                      · rw [if_neg c36] at H
                        have c36b0 : decide (1000000 < t150) = false := decide_eq_false c36
                        clear c36
                        replace H := Option.bind_eq_some_iff.mp H
                        obtain ⟨t156, A370, H⟩ := H
                        replace H : (if t156 = true then (if a1 = 0 then (none) else (some ((Int.tmod (wrap64 (a0 - t147)) a1) == 0))) else (some false)) = some r := H
                        have A37 := Aside0.mk A370
                        clear A370
                        by_cases c38 : t156 = true
                        · subst c38
                          have H1 : (if a1 = 0 then (none) else (some ((Int.tmod (wrap64 (a0 - t147)) a1) == 0))) = some r := by rw [if_pos rfl] at H; exact H
                          clear H
                          have H := H1
                          clear H1
                          by_cases c39 : a1 = 0
                          · rw [if_pos c39] at H
                            exact absurd H (by simp)
                          · rw [if_neg c39] at H
                            have c39b0 : (a1 == 0) = false := beq_eq_false_iff_ne.mpr c39
                            have c39b1 : (a1 != 0) = true := bne_iff_ne.mpr c39
                            obtain rfl := Option.some.inj H
                            go_wp2_with (first | ((with_reducible refine gate_callee (f := 13) rfl ?_); refine goesL_ (some 87) rfl rfl Tryd.func13 (by kernel_rfl) rfl #[] rfl (by (try simp only [List.map_toArray, List.map_cons, List.map_nil]); first | done | rfl | (simp only [List.length_drop, List.length_take]; rfl)) ?_; (with_reducible refine (scribelaw05_awake.calls kj13  true _ ?side1 A37.out).mono ?_); (case side1 => exact TB.below hT (by repeat (first | (with_reducible first | exact HB.out | apply below_alloc | apply pw_below_drewN | apply below_drew1) | exact HB.out))); rintro e w40 ⟨rfl, hb⟩; refine ⟨_, rfl, ?_⟩; have n0_ := Aside0.mk (below_step (by repeat (first | (with_reducible first | exact HB.out | apply below_alloc | apply pw_below_drewN | apply below_drew1) | exact HB.out)) hb); clear HB; have HB := n0_; clear n0_; (try clear hb); (try clear hb2); (try clear hk); (try clear hi)))
                            go_ret
                            exact ⟨by first | rfl | (simp [errW_none, errW_some] <;> rfl) | (simp [*, errW_none, errW_some] <;> rfl), by repeat (first | (with_reducible first | exact HB.out | apply below_alloc | apply pw_below_drewN | apply below_drew1) | exact HB.out)⟩
                        · replace c38 := Bool.eq_false_iff.mpr c38
                          subst c38
                          have H1 : (some false) = some r := by rw [if_neg (show ¬ (false = true) by decide)] at H; exact H
                          clear H
                          have H := H1
                          clear H1
                          obtain rfl := Option.some.inj H
                          go_wp2_with (first | ((with_reducible refine gate_callee (f := 13) rfl ?_); refine goesL_ (some 87) rfl rfl Tryd.func13 (by kernel_rfl) rfl #[] rfl (by (try simp only [List.map_toArray, List.map_cons, List.map_nil]); first | done | rfl | (simp only [List.length_drop, List.length_take]; rfl)) ?_; (with_reducible refine (scribelaw05_awake.calls kj13  false _ ?side1 A37.out).mono ?_); (case side1 => exact TB.below hT (by repeat (first | (with_reducible first | exact HB.out | apply below_alloc | apply pw_below_drewN | apply below_drew1) | exact HB.out))); rintro e w41 ⟨rfl, hb⟩; refine ⟨_, rfl, ?_⟩; have n0_ := Aside0.mk (below_step (by repeat (first | (with_reducible first | exact HB.out | apply below_alloc | apply pw_below_drewN | apply below_drew1) | exact HB.out)) hb); clear HB; have HB := n0_; clear n0_; (try clear hb); (try clear hb2); (try clear hk); (try clear hi)))
                          go_ret
                          exact ⟨by first | rfl | (simp [errW_none, errW_some] <;> rfl) | (simp [*, errW_none, errW_some] <;> rfl), by repeat (first | (with_reducible first | exact HB.out | apply below_alloc | apply pw_below_drewN | apply below_drew1) | exact HB.out)⟩
                  · rw [if_neg c34] at H
                    have c34b0 : decide (0 ≤ a0) = false := decide_eq_false c34
                    clear c34
                    replace H := Option.bind_eq_some_iff.mp H
                    obtain ⟨t157, A420, H⟩ := H
                    replace H : (if t157 = true then (if a1 = 0 then (none) else (some ((Int.tmod (wrap64 (a0 - t147)) a1) == 0))) else (some false)) = some r := H
                    have A42 := Aside0.mk A420
                    clear A420
                    by_cases c43 : t157 = true
                    · subst c43
                      have H1 : (if a1 = 0 then (none) else (some ((Int.tmod (wrap64 (a0 - t147)) a1) == 0))) = some r := by rw [if_pos rfl] at H; exact H
                      clear H
                      have H := H1
                      clear H1
                      by_cases c44 : a1 = 0
                      · rw [if_pos c44] at H
                        exact absurd H (by simp)
                      · rw [if_neg c44] at H
                        have c44b0 : (a1 == 0) = false := beq_eq_false_iff_ne.mpr c44
                        have c44b1 : (a1 != 0) = true := bne_iff_ne.mpr c44
                        obtain rfl := Option.some.inj H
                        go_wp2_with (first | ((with_reducible refine gate_callee (f := 13) rfl ?_); refine goesL_ (some 87) rfl rfl Tryd.func13 (by kernel_rfl) rfl #[] rfl (by (try simp only [List.map_toArray, List.map_cons, List.map_nil]); first | done | rfl | (simp only [List.length_drop, List.length_take]; rfl)) ?_; (with_reducible refine (scribelaw05_awake.calls kj13  true _ ?side1 A42.out).mono ?_); (case side1 => exact TB.below hT (by repeat (first | (with_reducible first | exact HB.out | apply below_alloc | apply pw_below_drewN | apply below_drew1) | exact HB.out))); rintro e w45 ⟨rfl, hb⟩; refine ⟨_, rfl, ?_⟩; have n0_ := Aside0.mk (below_step (by repeat (first | (with_reducible first | exact HB.out | apply below_alloc | apply pw_below_drewN | apply below_drew1) | exact HB.out)) hb); clear HB; have HB := n0_; clear n0_; (try clear hb); (try clear hb2); (try clear hk); (try clear hi)))
                        go_ret
                        exact ⟨by first | rfl | (simp [errW_none, errW_some] <;> rfl) | (simp [*, errW_none, errW_some] <;> rfl), by repeat (first | (with_reducible first | exact HB.out | apply below_alloc | apply pw_below_drewN | apply below_drew1) | exact HB.out)⟩
                    · replace c43 := Bool.eq_false_iff.mpr c43
                      subst c43
                      have H1 : (some false) = some r := by rw [if_neg (show ¬ (false = true) by decide)] at H; exact H
                      clear H
                      have H := H1
                      clear H1
                      obtain rfl := Option.some.inj H
                      go_wp2_with (first | ((with_reducible refine gate_callee (f := 13) rfl ?_); refine goesL_ (some 87) rfl rfl Tryd.func13 (by kernel_rfl) rfl #[] rfl (by (try simp only [List.map_toArray, List.map_cons, List.map_nil]); first | done | rfl | (simp only [List.length_drop, List.length_take]; rfl)) ?_; (with_reducible refine (scribelaw05_awake.calls kj13  false _ ?side1 A42.out).mono ?_); (case side1 => exact TB.below hT (by repeat (first | (with_reducible first | exact HB.out | apply below_alloc | apply pw_below_drewN | apply below_drew1) | exact HB.out))); rintro e w46 ⟨rfl, hb⟩; refine ⟨_, rfl, ?_⟩; have n0_ := Aside0.mk (below_step (by repeat (first | (with_reducible first | exact HB.out | apply below_alloc | apply pw_below_drewN | apply below_drew1) | exact HB.out)) hb); clear HB; have HB := n0_; clear n0_; (try clear hb); (try clear hb2); (try clear hk); (try clear hi)))
                      go_ret
                      exact ⟨by first | rfl | (simp [errW_none, errW_some] <;> rfl) | (simp [*, errW_none, errW_some] <;> rfl), by repeat (first | (with_reducible first | exact HB.out | apply below_alloc | apply pw_below_drewN | apply below_drew1) | exact HB.out)⟩
                · rw [if_neg c33] at H
                  have c33b0 : (t151 == 16) = false := beq_eq_false_iff_ne.mpr c33
                  have c33b1 : (t151 != 16) = true := bne_iff_ne.mpr c33
                  obtain rfl := Option.some.inj H
                  go_wp2
                  go_ret
                  exact ⟨by first | rfl | (simp [errW_none, errW_some] <;> rfl) | (simp [*, errW_none, errW_some] <;> rfl), by repeat (first | (with_reducible first | exact HB.out | apply below_alloc | apply pw_below_drewN | apply below_drew1) | exact HB.out)⟩
              · rw [if_neg c32] at H
                have c32b0 : (a0 == (-1)) = false := beq_eq_false_iff_ne.mpr c32
                have c32b1 : (a0 != (-1)) = true := bne_iff_ne.mpr c32
                by_cases c47 : a0 ≥ 0
                · rw [if_pos c47] at H
                  have c47b0 : decide (0 ≤ a0) = true := decide_eq_true c47
                  clear c47
                  by_cases c48 : t150 < 0
                  · rw [if_pos c48] at H
                    have c48b0 : decide (t150 < 0) = true := decide_eq_true c48
                    clear c48
                    obtain rfl := Option.some.inj H
                    go_wp2
                    go_ret
                    exact ⟨by first | rfl | (simp [errW_none, errW_some] <;> rfl) | (simp [*, errW_none, errW_some] <;> rfl), by repeat (first | (with_reducible first | exact HB.out | apply below_alloc | apply pw_below_drewN | apply below_drew1) | exact HB.out)⟩
                  · rw [if_neg c48] at H
                    have c48b0 : decide (t150 < 0) = false := decide_eq_false c48
                    clear c48
                    by_cases c49 : t150 > 1000000
                    · rw [if_pos c49] at H
                      have c49b0 : decide (1000000 < t150) = true := decide_eq_true c49
                      clear c49
                      obtain rfl := Option.some.inj H
                      go_wp2
                      go_ret
                      exact ⟨by first | rfl | (simp [errW_none, errW_some] <;> rfl) | (simp [*, errW_none, errW_some] <;> rfl), by repeat (first | (with_reducible first | exact HB.out | apply below_alloc | apply pw_below_drewN | apply below_drew1) | exact HB.out)⟩
                    · rw [if_neg c49] at H
                      have c49b0 : decide (1000000 < t150) = false := decide_eq_false c49
                      clear c49
                      replace H := Option.bind_eq_some_iff.mp H
                      obtain ⟨t158, A500, H⟩ := H
                      replace H : (if t158 = true then (if a1 = 0 then (none) else (some ((Int.tmod (wrap64 (a0 - t147)) a1) == 0))) else (some false)) = some r := H
                      have A50 := Aside0.mk A500
                      clear A500
                      by_cases c51 : t158 = true
                      · subst c51
                        have H1 : (if a1 = 0 then (none) else (some ((Int.tmod (wrap64 (a0 - t147)) a1) == 0))) = some r := by rw [if_pos rfl] at H; exact H
                        clear H
                        have H := H1
                        clear H1
                        by_cases c52 : a1 = 0
                        · rw [if_pos c52] at H
                          exact absurd H (by simp)
                        · rw [if_neg c52] at H
                          have c52b0 : (a1 == 0) = false := beq_eq_false_iff_ne.mpr c52
                          have c52b1 : (a1 != 0) = true := bne_iff_ne.mpr c52
                          obtain rfl := Option.some.inj H
                          go_wp2_with (first | ((with_reducible refine gate_callee (f := 13) rfl ?_); refine goesL_ (some 87) rfl rfl Tryd.func13 (by kernel_rfl) rfl #[] rfl (by (try simp only [List.map_toArray, List.map_cons, List.map_nil]); first | done | rfl | (simp only [List.length_drop, List.length_take]; rfl)) ?_; (with_reducible refine (scribelaw05_awake.calls kj13  true _ ?side1 A50.out).mono ?_); (case side1 => exact TB.below hT (by repeat (first | (with_reducible first | exact HB.out | apply below_alloc | apply pw_below_drewN | apply below_drew1) | exact HB.out))); rintro e w53 ⟨rfl, hb⟩; refine ⟨_, rfl, ?_⟩; have n0_ := Aside0.mk (below_step (by repeat (first | (with_reducible first | exact HB.out | apply below_alloc | apply pw_below_drewN | apply below_drew1) | exact HB.out)) hb); clear HB; have HB := n0_; clear n0_; (try clear hb); (try clear hb2); (try clear hk); (try clear hi)))
                          go_ret
                          exact ⟨by first | rfl | (simp [errW_none, errW_some] <;> rfl) | (simp [*, errW_none, errW_some] <;> rfl), by repeat (first | (with_reducible first | exact HB.out | apply below_alloc | apply pw_below_drewN | apply below_drew1) | exact HB.out)⟩
                      · replace c51 := Bool.eq_false_iff.mpr c51
                        subst c51
                        have H1 : (some false) = some r := by rw [if_neg (show ¬ (false = true) by decide)] at H; exact H
                        clear H
                        have H := H1
                        clear H1
                        obtain rfl := Option.some.inj H
                        go_wp2_with (first | ((with_reducible refine gate_callee (f := 13) rfl ?_); refine goesL_ (some 87) rfl rfl Tryd.func13 (by kernel_rfl) rfl #[] rfl (by (try simp only [List.map_toArray, List.map_cons, List.map_nil]); first | done | rfl | (simp only [List.length_drop, List.length_take]; rfl)) ?_; (with_reducible refine (scribelaw05_awake.calls kj13  false _ ?side1 A50.out).mono ?_); (case side1 => exact TB.below hT (by repeat (first | (with_reducible first | exact HB.out | apply below_alloc | apply pw_below_drewN | apply below_drew1) | exact HB.out))); rintro e w54 ⟨rfl, hb⟩; refine ⟨_, rfl, ?_⟩; have n0_ := Aside0.mk (below_step (by repeat (first | (with_reducible first | exact HB.out | apply below_alloc | apply pw_below_drewN | apply below_drew1) | exact HB.out)) hb); clear HB; have HB := n0_; clear n0_; (try clear hb); (try clear hb2); (try clear hk); (try clear hi)))
                        go_ret
                        exact ⟨by first | rfl | (simp [errW_none, errW_some] <;> rfl) | (simp [*, errW_none, errW_some] <;> rfl), by repeat (first | (with_reducible first | exact HB.out | apply below_alloc | apply pw_below_drewN | apply below_drew1) | exact HB.out)⟩
                · rw [if_neg c47] at H
                  have c47b0 : decide (0 ≤ a0) = false := decide_eq_false c47
                  clear c47
                  replace H := Option.bind_eq_some_iff.mp H
                  obtain ⟨t159, A550, H⟩ := H
                  replace H : (if t159 = true then (if a1 = 0 then (none) else (some ((Int.tmod (wrap64 (a0 - t147)) a1) == 0))) else (some false)) = some r := H
                  have A55 := Aside0.mk A550
                  clear A550
                  by_cases c56 : t159 = true
                  · subst c56
                    have H1 : (if a1 = 0 then (none) else (some ((Int.tmod (wrap64 (a0 - t147)) a1) == 0))) = some r := by rw [if_pos rfl] at H; exact H
                    clear H
                    have H := H1
                    clear H1
                    by_cases c57 : a1 = 0
                    · rw [if_pos c57] at H
                      exact absurd H (by simp)
                    · rw [if_neg c57] at H
                      have c57b0 : (a1 == 0) = false := beq_eq_false_iff_ne.mpr c57
                      have c57b1 : (a1 != 0) = true := bne_iff_ne.mpr c57
                      obtain rfl := Option.some.inj H
                      go_wp2_with (first | ((with_reducible refine gate_callee (f := 13) rfl ?_); refine goesL_ (some 87) rfl rfl Tryd.func13 (by kernel_rfl) rfl #[] rfl (by (try simp only [List.map_toArray, List.map_cons, List.map_nil]); first | done | rfl | (simp only [List.length_drop, List.length_take]; rfl)) ?_; (with_reducible refine (scribelaw05_awake.calls kj13  true _ ?side1 A55.out).mono ?_); (case side1 => exact TB.below hT (by repeat (first | (with_reducible first | exact HB.out | apply below_alloc | apply pw_below_drewN | apply below_drew1) | exact HB.out))); rintro e w58 ⟨rfl, hb⟩; refine ⟨_, rfl, ?_⟩; have n0_ := Aside0.mk (below_step (by repeat (first | (with_reducible first | exact HB.out | apply below_alloc | apply pw_below_drewN | apply below_drew1) | exact HB.out)) hb); clear HB; have HB := n0_; clear n0_; (try clear hb); (try clear hb2); (try clear hk); (try clear hi)))
                      go_ret
                      exact ⟨by first | rfl | (simp [errW_none, errW_some] <;> rfl) | (simp [*, errW_none, errW_some] <;> rfl), by repeat (first | (with_reducible first | exact HB.out | apply below_alloc | apply pw_below_drewN | apply below_drew1) | exact HB.out)⟩
                  · replace c56 := Bool.eq_false_iff.mpr c56
                    subst c56
                    have H1 : (some false) = some r := by rw [if_neg (show ¬ (false = true) by decide)] at H; exact H
                    clear H
                    have H := H1
                    clear H1
                    obtain rfl := Option.some.inj H
                    go_wp2_with (first | ((with_reducible refine gate_callee (f := 13) rfl ?_); refine goesL_ (some 87) rfl rfl Tryd.func13 (by kernel_rfl) rfl #[] rfl (by (try simp only [List.map_toArray, List.map_cons, List.map_nil]); first | done | rfl | (simp only [List.length_drop, List.length_take]; rfl)) ?_; (with_reducible refine (scribelaw05_awake.calls kj13  false _ ?side1 A55.out).mono ?_); (case side1 => exact TB.below hT (by repeat (first | (with_reducible first | exact HB.out | apply below_alloc | apply pw_below_drewN | apply below_drew1) | exact HB.out))); rintro e w59 ⟨rfl, hb⟩; refine ⟨_, rfl, ?_⟩; have n0_ := Aside0.mk (below_step (by repeat (first | (with_reducible first | exact HB.out | apply below_alloc | apply pw_below_drewN | apply below_drew1) | exact HB.out)) hb); clear HB; have HB := n0_; clear n0_; (try clear hb); (try clear hb2); (try clear hk); (try clear hi)))
                    go_ret
                    exact ⟨by first | rfl | (simp [errW_none, errW_some] <;> rfl) | (simp [*, errW_none, errW_some] <;> rfl), by repeat (first | (with_reducible first | exact HB.out | apply below_alloc | apply pw_below_drewN | apply below_drew1) | exact HB.out)⟩

end Go.Proofs.YtcbocfgiegdhmaaDoor.Pr
