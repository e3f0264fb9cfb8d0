/- The machine's side, written by a patched print (wip/tools): each theorem says that a call of the Go function comes to what the Lean function beside it computes, where the tables are laid (TB). -/
import Derived.Test.YtcbocfgiegdhmaaDoorPr0
import Derived.Test.YtcbocfgiegdhmaaDoorPr1
import Derived.Test.YtcbocfgiegdhmaaDoorPr6
import Derived.Test.YtcbocfgiegdhmaaDoorPr7
import Derived.Test.YtcbocfgiegdhmaaDoorPr8
import Derived.Test.YtcbocfgiegdhmaaDoorPr22
import Derived.Test.YtcbocfgiegdhmaaDoorPr23
import Derived.Test.YtcbocfgiegdhmaaDoorPr24
import Derived.Test.YtcbocfgiegdhmaaDoorPr25
namespace Go.Proofs.YtcbocfgiegdhmaaDoor.Pr
open Go.RowKit Go.Proofs.YtcbocfgiegdhmaaDoorW.PrintWords Go.Proofs.YtcbocfgiegdhmaaDoorW.PrintLast Go.Proofs.YtcbocfgiegdhmaaDoorW.PrintMore
attribute [local go_sem] max2_int min2_int max_two min_two max_three min_three max_four min_four   -- for this text's walks alone
set_option linter.unusedVariables false
set_option linter.unusedSimpArgs false

/-! ### scribelaw05_NumTexts: function 9 -/
def scribelaw05_NumTexts.j0 : Nat → Int → Bool → Option (Bool)
  | 0, _, _ => none
  | k + 1, x0, x56 => if x56 = true then (some false) else ((scribelaw05_fit.f x0).bind fun t283 => (if t283 = true then ((num_Num_Text.f k x0).bind fun t284 => ((scriberef05_Text.f k x0).bind fun t285 => (some (t284.toList == t285.toList)))) else (some true)))
def scribelaw05_NumTexts.f (k : Nat) (a0 : Int) (a1 : ByteArray) : Option (Bool) := (scribelaw01_Cut.f a1 100).bind fun t273 => ((num_Prefix.f k t273).bind fun bt274 => ((scriberef05_Prefix.f k t273).bind fun bt276 => ((num_Looks.f k t273).bind fun bt278 => ((scriberef05_Looks.f k t273).bind fun bt280 => ((scribelaw05_awake.f k).bind fun t282 => (if t282 = true then (if bt274.1 = bt276.1 then (if bt274.2 = bt276.2 then (if bt278.1 = bt280.1 then (scribelaw05_NumTexts.j0 k a0 (bt278.2 != bt280.2)) else (scribelaw05_NumTexts.j0 k a0 true)) else (scribelaw05_NumTexts.j0 k a0 true)) else (scribelaw05_NumTexts.j0 k a0 true)) else (scribelaw05_NumTexts.j0 k a0 true)))))))
theorem scribelaw05_NumTexts.mono_l : ∀ k, (∀ y0 y1, LeO (scribelaw05_NumTexts.j0 k y0 y1) (scribelaw05_NumTexts.j0 (k + 1) y0 y1))
  | 0 => fun _ _ r h => by simp [scribelaw05_NumTexts.j0] at h
  | k + 1 => by
    have ih0 := scribelaw05_NumTexts.mono_l k
    · intro y0 y1
      unfold scribelaw05_NumTexts.j0
      repeat' first
      | (with_reducible exact ih0 _ _)
      | (with_reducible exact num_Looks.mono _ _)
      | (with_reducible exact num_Num_Text.mono _ _)
      | (with_reducible exact num_Prefix.mono _ _)
      | (with_reducible exact scribelaw05_awake.mono _)
      | (with_reducible exact scriberef05_Looks.mono _ _)
      | (with_reducible exact scriberef05_Prefix.mono _ _)
      | (with_reducible exact scriberef05_Text.mono _ _)
      | (with_reducible exact LeO.refl _)
      | (with_reducible exact LeO.none _)
      | (with_reducible refine LeO.ite ?_ ?_)
      | (with_reducible refine LeO.bind ?_ (fun _ => ?_))
      | exact ih0 _ _
      | exact num_Looks.mono _ _
      | exact num_Num_Text.mono _ _
      | exact num_Prefix.mono _ _
      | exact scribelaw05_awake.mono _
      | exact scriberef05_Looks.mono _ _
      | exact scriberef05_Prefix.mono _ _
      | exact scriberef05_Text.mono _ _
      | exact LeO.none _
      | refine LeO.ite ?_ ?_
      | refine LeO.bind ?_ (fun _ => ?_)
theorem scribelaw05_NumTexts.mono : ∀ a0 a1 k, LeO (scribelaw05_NumTexts.f k a0 a1) (scribelaw05_NumTexts.f (k + 1) a0 a1) := by
  intro a0 a1 k
  have ih0 := scribelaw05_NumTexts.mono_l k
  unfold scribelaw05_NumTexts.f
  repeat' first
      | (with_reducible exact ih0 _ _)
      | (with_reducible exact num_Looks.mono _ _)
      | (with_reducible exact num_Num_Text.mono _ _)
      | (with_reducible exact num_Prefix.mono _ _)
      | (with_reducible exact scribelaw05_awake.mono _)
      | (with_reducible exact scriberef05_Looks.mono _ _)
      | (with_reducible exact scriberef05_Prefix.mono _ _)
      | (with_reducible exact scriberef05_Text.mono _ _)
      | (with_reducible exact LeO.refl _)
      | (with_reducible exact LeO.none _)
      | (with_reducible refine LeO.ite ?_ ?_)
      | (with_reducible refine LeO.bind ?_ (fun _ => ?_))
      | exact ih0 _ _
      | exact num_Looks.mono _ _
      | exact num_Num_Text.mono _ _
      | exact num_Prefix.mono _ _
      | exact scribelaw05_awake.mono _
      | exact scriberef05_Looks.mono _ _
      | exact scriberef05_Prefix.mono _ _
      | exact scriberef05_Text.mono _ _
      | exact LeO.none _
      | refine LeO.ite ?_ ?_
      | refine LeO.bind ?_ (fun _ => ?_)
set_option maxHeartbeats 8000000 in
set_option maxRecDepth 100000 in
theorem scribelaw05_NumTexts.calls (k : Nat) (a0 : Int) (a1 : ByteArray) (r : Bool) (w : World) (hT : TB w) (h : scribelaw05_NumTexts.f k a0 a1 = some r) :
    Calls Tryd.prog 9 #[.int .i64 a0, .string a1] w fun e w' => e = .returned (.bool r) ∧ Below w.heap.size w w' := by
  have HB := Aside0.mk (Below.refl w.heap.size w)
  have H : ((scribelaw01_Cut.f a1 100).bind fun t273 => ((num_Prefix.f k t273).bind fun bt274 => ((scriberef05_Prefix.f k t273).bind fun bt276 => ((num_Looks.f k t273).bind fun bt278 => ((scriberef05_Looks.f k t273).bind fun bt280 => ((scribelaw05_awake.f k).bind fun t282 => (if t282 = true then (if bt274.1 = bt276.1 then (if bt274.2 = bt276.2 then (if bt278.1 = bt280.1 then (scribelaw05_NumTexts.j0 k a0 (bt278.2 != bt280.2)) else (scribelaw05_NumTexts.j0 k a0 true)) else (scribelaw05_NumTexts.j0 k a0 true)) else (scribelaw05_NumTexts.j0 k a0 true)) else (scribelaw05_NumTexts.j0 k a0 true)))))))) = some r := h
  clear h
  replace H := Option.bind_eq_some_iff.mp H
  obtain ⟨t273, A30, H⟩ := H
  replace H : ((num_Prefix.f k t273).bind fun bt274 => ((scriberef05_Prefix.f k t273).bind fun bt276 => ((num_Looks.f k t273).bind fun bt278 => ((scriberef05_Looks.f k t273).bind fun bt280 => ((scribelaw05_awake.f k).bind fun t282 => (if t282 = true then (if bt274.1 = bt276.1 then (if bt274.2 = bt276.2 then (if bt278.1 = bt280.1 then (scribelaw05_NumTexts.j0 k a0 (bt278.2 != bt280.2)) else (scribelaw05_NumTexts.j0 k a0 true)) else (scribelaw05_NumTexts.j0 k a0 true)) else (scribelaw05_NumTexts.j0 k a0 true)) else (scribelaw05_NumTexts.j0 k a0 true))))))) = some r := H
  have A3 := Aside0.mk A30
  clear A30
  replace H := Option.bind_eq_some_iff.mp H
  obtain ⟨⟨t274, t275⟩, A40, H⟩ := H
  replace H : ((scriberef05_Prefix.f k t273).bind fun bt276 => ((num_Looks.f k t273).bind fun bt278 => ((scriberef05_Looks.f k t273).bind fun bt280 => ((scribelaw05_awake.f k).bind fun t282 => (if t282 = true then (if t274 = bt276.1 then (if t275 = bt276.2 then (if bt278.1 = bt280.1 then (scribelaw05_NumTexts.j0 k a0 (bt278.2 != bt280.2)) else (scribelaw05_NumTexts.j0 k a0 true)) else (scribelaw05_NumTexts.j0 k a0 true)) else (scribelaw05_NumTexts.j0 k a0 true)) else (scribelaw05_NumTexts.j0 k a0 true)))))) = some r := H
  have A4 := Aside0.mk A40
  clear A40
  replace H := Option.bind_eq_some_iff.mp H
  obtain ⟨⟨t276, t277⟩, A50, H⟩ := H
  replace H : ((num_Looks.f k t273).bind fun bt278 => ((scriberef05_Looks.f k t273).bind fun bt280 => ((scribelaw05_awake.f k).bind fun t282 => (if t282 = true then (if t274 = t276 then (if t275 = t277 then (if bt278.1 = bt280.1 then (scribelaw05_NumTexts.j0 k a0 (bt278.2 != bt280.2)) else (scribelaw05_NumTexts.j0 k a0 true)) else (scribelaw05_NumTexts.j0 k a0 true)) else (scribelaw05_NumTexts.j0 k a0 true)) else (scribelaw05_NumTexts.j0 k a0 true))))) = some r := H
  have A5 := Aside0.mk A50
  clear A50
  replace H := Option.bind_eq_some_iff.mp H
  obtain ⟨⟨t278, t279⟩, A60, H⟩ := H
  replace H : ((scriberef05_Looks.f k t273).bind fun bt280 => ((scribelaw05_awake.f k).bind fun t282 => (if t282 = true then (if t274 = t276 then (if t275 = t277 then (if t278 = bt280.1 then (scribelaw05_NumTexts.j0 k a0 (t279 != bt280.2)) else (scribelaw05_NumTexts.j0 k a0 true)) else (scribelaw05_NumTexts.j0 k a0 true)) else (scribelaw05_NumTexts.j0 k a0 true)) else (scribelaw05_NumTexts.j0 k a0 true)))) = some r := H
  have A6 := Aside0.mk A60
  clear A60
  replace H := Option.bind_eq_some_iff.mp H
  obtain ⟨⟨t280, t281⟩, A70, H⟩ := H
  replace H : ((scribelaw05_awake.f k).bind fun t282 => (if t282 = true then (if t274 = t276 then (if t275 = t277 then (if t278 = t280 then (scribelaw05_NumTexts.j0 k a0 (t279 != t281)) else (scribelaw05_NumTexts.j0 k a0 true)) else (scribelaw05_NumTexts.j0 k a0 true)) else (scribelaw05_NumTexts.j0 k a0 true)) else (scribelaw05_NumTexts.j0 k a0 true))) = some r := H
  have A7 := Aside0.mk A70
  clear A70
  have HC8 := Aside0.mk H
  clear H
  go_enter Tryd.func9, Tryd.ntmps9
  go_upto_region 6 with (first | ((with_reducible refine gate_callee (f := 27) rfl ?_); refine goesL_ (some 14) rfl rfl Tryd.func27 (by kernel_rfl) rfl #[.string a1, .int .i64 100] rfl (by (try simp only [List.map_toArray, List.map_cons, List.map_nil]); first | done | rfl | (simp only [List.length_drop, List.length_take]; rfl)) ?_; (with_reducible refine (scribelaw01_Cut.calls a1 100 t273 _ ?side1 A3.out).mono ?_); (case side1 => exact TB.below hT (by repeat (first | (with_reducible first | exact HB.out | apply below_alloc | apply pw_below_drewN | apply below_drew1) | exact HB.out))); rintro e w' ⟨rfl, ⟨nd, rfl⟩⟩; refine ⟨_, rfl, ?_⟩) | ((with_reducible refine gate_callee (f := 28) rfl ?_); refine goesL_ (some 17) rfl rfl Tryd.func28 (by kernel_rfl) rfl #[.string t273] rfl (by (try simp only [List.map_toArray, List.map_cons, List.map_nil]); first | done | rfl | (simp only [List.length_drop, List.length_take]; rfl)) ?_; (with_reducible refine (num_Prefix.calls k t273 t274 t275 _ ?side1 A4.out).mono ?_); (case side1 => exact TB.below hT (by repeat (first | (with_reducible first | exact HB.out | apply below_alloc | apply pw_below_drewN | apply below_drew1) | exact HB.out))); rintro e w9 ⟨rfl, hb⟩; refine ⟨_, rfl, ?_⟩; have n0_ := Aside0.mk (below_step (by repeat (first | (with_reducible first | exact HB.out | apply below_alloc | apply pw_below_drewN | apply below_drew1) | exact HB.out)) hb); clear HB; have HB := n0_; clear n0_; (try clear hb); (try clear hb2); (try clear hk); (try clear hi)) | ((with_reducible refine gate_callee (f := 29) rfl ?_); refine goesL_ (some 22) rfl rfl Tryd.func29 (by kernel_rfl) rfl #[.string t273] rfl (by (try simp only [List.map_toArray, List.map_cons, List.map_nil]); first | done | rfl | (simp only [List.length_drop, List.length_take]; rfl)) ?_; (with_reducible refine (scriberef05_Prefix.calls k t273 t276 t277 _ ?side1 A5.out).mono ?_); (case side1 => exact TB.below hT (by repeat (first | (with_reducible first | exact HB.out | apply below_alloc | apply pw_below_drewN | apply below_drew1) | exact HB.out))); rintro e w' ⟨rfl, ⟨nd, rfl⟩⟩; refine ⟨_, rfl, ?_⟩) | ((with_reducible refine gate_callee (f := 30) rfl ?_); refine goesL_ (some 27) rfl rfl Tryd.func30 (by kernel_rfl) rfl #[.string t273] rfl (by (try simp only [List.map_toArray, List.map_cons, List.map_nil]); first | done | rfl | (simp only [List.length_drop, List.length_take]; rfl)) ?_; (with_reducible refine (num_Looks.calls k t273 t278 t279 _ ?side1 A6.out).mono ?_); (case side1 => exact TB.below hT (by repeat (first | (with_reducible first | exact HB.out | apply below_alloc | apply pw_below_drewN | apply below_drew1) | exact HB.out))); rintro e w10 ⟨rfl, hb⟩; refine ⟨_, rfl, ?_⟩; have n0_ := Aside0.mk (below_step (by repeat (first | (with_reducible first | exact HB.out | apply below_alloc | apply pw_below_drewN | apply below_drew1) | exact HB.out)) hb); clear HB; have HB := n0_; clear n0_; (try clear hb); (try clear hb2); (try clear hk); (try clear hi)) | ((with_reducible refine gate_callee (f := 31) rfl ?_); refine goesL_ (some 32) rfl rfl Tryd.func31 (by kernel_rfl) rfl #[.string t273] rfl (by (try simp only [List.map_toArray, List.map_cons, List.map_nil]); first | done | rfl | (simp only [List.length_drop, List.length_take]; rfl)) ?_; (with_reducible refine (scriberef05_Looks.calls k t273 t280 t281 _ ?side1 A7.out).mono ?_); (case side1 => exact TB.below hT (by repeat (first | (with_reducible first | exact HB.out | apply below_alloc | apply pw_below_drewN | apply below_drew1) | exact HB.out))); rintro e w' ⟨rfl, ⟨nd, rfl⟩⟩; refine ⟨_, rfl, ?_⟩))
  (try simp only [Act.put, List.setIfInBounds_toArray, List.set_cons_zero, List.set_cons_succ])
  go_cut [56] (fun v56 wc => ∃ (kq : Nat) (x56_7 : Bool), v56 = .bool x56_7 ∧ Aside0 (scribelaw05_NumTexts.j0 kq a0 x56_7 = some r) ∧ Aside0 (kq ≤ k) ∧ Aside0 (Below w.heap.size w wc))
  case first =>
    have H := HC8.out
    clear HC8
    replace H := Option.bind_eq_some_iff.mp H
    obtain ⟨t282, A110, H⟩ := H
    replace H : (if t282 = true then (if t274 = t276 then (if t275 = t277 then (if t278 = t280 then (scribelaw05_NumTexts.j0 k a0 (t279 != t281)) else (scribelaw05_NumTexts.j0 k a0 true)) else (scribelaw05_NumTexts.j0 k a0 true)) else (scribelaw05_NumTexts.j0 k a0 true)) else (scribelaw05_NumTexts.j0 k a0 true)) = some r := H
    have A11 := Aside0.mk A110
    clear A110
    by_cases c12 : t282 = true
    · subst c12
      have H1 : (if t274 = t276 then (if t275 = t277 then (if t278 = t280 then (scribelaw05_NumTexts.j0 k a0 (t279 != t281)) else (scribelaw05_NumTexts.j0 k a0 true)) else (scribelaw05_NumTexts.j0 k a0 true)) else (scribelaw05_NumTexts.j0 k a0 true)) = some r := by rw [if_pos rfl] at H; exact H
      clear H
      have H := H1
      clear H1
      by_cases c13 : t274 = t276
      · rw [if_pos c13] at H
        have c13b0 : (t274 == t276) = true := beq_iff_eq.mpr c13
        have c13b1 : (t274 != t276) = false := bne_eq_false_iff_eq.mpr c13
        clear c13
        (first | rw [c13b0] | (simp only [i64_w, i32_w]; rw [c13b0]) | skip)
        by_cases c14 : t275 = t277
        · rw [if_pos c14] at H
          have c14b0 : (t275 == t277) = true := beq_iff_eq.mpr c14
          have c14b1 : (t275 != t277) = false := bne_eq_false_iff_eq.mpr c14
          clear c14
          by_cases c15 : t278 = t280
          · rw [if_pos c15] at H
            have c15b0 : (t278 == t280) = true := beq_iff_eq.mpr c15
            have c15b1 : (t278 != t280) = false := bne_eq_false_iff_eq.mpr c15
            clear c15
            have H' := Aside0.mk H
            clear H
            go_wp2_with (first | ((with_reducible refine gate_callee (f := 13) rfl ?_); refine goesL_ (some 35) rfl rfl Tryd.func13 (by kernel_rfl) rfl #[] rfl (by (try simp only [List.map_toArray, List.map_cons, List.map_nil]); first | done | rfl | (simp only [List.length_drop, List.length_take]; rfl)) ?_; (with_reducible refine (scribelaw05_awake.calls k  true _ ?side1 A11.out).mono ?_); (case side1 => exact TB.below hT (by repeat (first | (with_reducible first | exact HB.out | apply below_alloc | apply pw_below_drewN | apply below_drew1) | exact HB.out))); rintro e w16 ⟨rfl, hb⟩; refine ⟨_, rfl, ?_⟩; have n0_ := Aside0.mk (below_step (by repeat (first | (with_reducible first | exact HB.out | apply below_alloc | apply pw_below_drewN | apply below_drew1) | exact HB.out)) hb); clear HB; have HB := n0_; clear n0_; (try clear hb); (try clear hb2); (try clear hk); (try clear hi)))
            go_meet
            case rel => exact ⟨_, ((t279 != t281)), (by first | rfl | (simp; done) | (simp [*]; done) | (simp; unfold wrap64; omega)), H', ⟨by first | omega | exact Nat.le_refl _⟩, ⟨by repeat (first | (with_reducible first | exact HB.out | apply below_alloc | apply pw_below_drewN | apply below_drew1) | exact HB.out)⟩⟩
          · rw [if_neg c15] at H
            have c15b0 : (t278 == t280) = false := beq_eq_false_iff_ne.mpr c15
            have c15b1 : (t278 != t280) = true := bne_iff_ne.mpr c15
            have H' := Aside0.mk H
            clear H
            go_wp2_with (first | ((with_reducible refine gate_callee (f := 13) rfl ?_); refine goesL_ (some 35) rfl rfl Tryd.func13 (by kernel_rfl) rfl #[] rfl (by (try simp only [List.map_toArray, List.map_cons, List.map_nil]); first | done | rfl | (simp only [List.length_drop, List.length_take]; rfl)) ?_; (with_reducible refine (scribelaw05_awake.calls k  true _ ?side1 A11.out).mono ?_); (case side1 => exact TB.below hT (by repeat (first | (with_reducible first | exact HB.out | apply below_alloc | apply pw_below_drewN | apply below_drew1) | exact HB.out))); rintro e w17 ⟨rfl, hb⟩; refine ⟨_, rfl, ?_⟩; have n0_ := Aside0.mk (below_step (by repeat (first | (with_reducible first | exact HB.out | apply below_alloc | apply pw_below_drewN | apply below_drew1) | exact HB.out)) hb); clear HB; have HB := n0_; clear n0_; (try clear hb); (try clear hb2); (try clear hk); (try clear hi)))
            go_meet
            case rel => exact ⟨_, (true), (by first | rfl | (simp; done) | (simp [*]; done) | (simp; unfold wrap64; omega)), H', ⟨by first | omega | exact Nat.le_refl _⟩, ⟨by repeat (first | (with_reducible first | exact HB.out | apply below_alloc | apply pw_below_drewN | apply below_drew1) | exact HB.out)⟩⟩
        · rw [if_neg c14] at H
          have c14b0 : (t275 == t277) = false := beq_eq_false_iff_ne.mpr c14
          have c14b1 : (t275 != t277) = true := bne_iff_ne.mpr c14
          have H' := Aside0.mk H
          clear H
          go_wp2_with (first | ((with_reducible refine gate_callee (f := 13) rfl ?_); refine goesL_ (some 35) rfl rfl Tryd.func13 (by kernel_rfl) rfl #[] rfl (by (try simp only [List.map_toArray, List.map_cons, List.map_nil]); first | done | rfl | (simp only [List.length_drop, List.length_take]; rfl)) ?_; (with_reducible refine (scribelaw05_awake.calls k  true _ ?side1 A11.out).mono ?_); (case side1 => exact TB.below hT (by repeat (first | (with_reducible first | exact HB.out | apply below_alloc | apply pw_below_drewN | apply below_drew1) | exact HB.out))); rintro e w18 ⟨rfl, hb⟩; refine ⟨_, rfl, ?_⟩; have n0_ := Aside0.mk (below_step (by repeat (first | (with_reducible first | exact HB.out | apply below_alloc | apply pw_below_drewN | apply below_drew1) | exact HB.out)) hb); clear HB; have HB := n0_; clear n0_; (try clear hb); (try clear hb2); (try clear hk); (try clear hi)))
          go_meet
          case rel => exact ⟨_, (true), (by first | rfl | (simp; done) | (simp [*]; done) | (simp; unfold wrap64; omega)), H', ⟨by first | omega | exact Nat.le_refl _⟩, ⟨by repeat (first | (with_reducible first | exact HB.out | apply below_alloc | apply pw_below_drewN | apply below_drew1) | exact HB.out)⟩⟩
      · rw [if_neg c13] at H
        have c13b0 : (t274 == t276) = false := beq_eq_false_iff_ne.mpr c13
        have c13b1 : (t274 != t276) = true := bne_iff_ne.mpr c13
        (first | rw [c13b0] | (simp only [i64_w, i32_w]; rw [c13b0]) | skip)
        have H' := Aside0.mk H
        clear H
        go_wp2_with (first | ((with_reducible refine gate_callee (f := 13) rfl ?_); refine goesL_ (some 35) rfl rfl Tryd.func13 (by kernel_rfl) rfl #[] rfl (by (try simp only [List.map_toArray, List.map_cons, List.map_nil]); first | done | rfl | (simp only [List.length_drop, List.length_take]; rfl)) ?_; (with_reducible refine (scribelaw05_awake.calls k  true _ ?side1 A11.out).mono ?_); (case side1 => exact TB.below hT (by repeat (first | (with_reducible first | exact HB.out | apply below_alloc | apply pw_below_drewN | apply below_drew1) | exact HB.out))); rintro e w19 ⟨rfl, hb⟩; refine ⟨_, rfl, ?_⟩; have n0_ := Aside0.mk (below_step (by repeat (first | (with_reducible first | exact HB.out | apply below_alloc | apply pw_below_drewN | apply below_drew1) | exact HB.out)) hb); clear HB; have HB := n0_; clear n0_; (try clear hb); (try clear hb2); (try clear hk); (try clear hi)))
        go_meet
        case rel => exact ⟨_, (true), (by first | rfl | (simp; done) | (simp [*]; done) | (simp; unfold wrap64; omega)), H', ⟨by first | omega | exact Nat.le_refl _⟩, ⟨by repeat (first | (with_reducible first | exact HB.out | apply below_alloc | apply pw_below_drewN | apply below_drew1) | exact HB.out)⟩⟩
    · replace c12 := Bool.eq_false_iff.mpr c12
      subst c12
      have H1 : (scribelaw05_NumTexts.j0 k a0 true) = some r := by rw [if_neg (show ¬ (false = true) by decide)] at H; exact H
      clear H
      have H := H1
      clear H1
      have H' := Aside0.mk H
      clear H
      go_wp2_with (first | ((with_reducible refine gate_callee (f := 13) rfl ?_); refine goesL_ (some 35) rfl rfl Tryd.func13 (by kernel_rfl) rfl #[] rfl (by (try simp only [List.map_toArray, List.map_cons, List.map_nil]); first | done | rfl | (simp only [List.length_drop, List.length_take]; rfl)) ?_; (with_reducible refine (scribelaw05_awake.calls k  false _ ?side1 A11.out).mono ?_); (case side1 => exact TB.below hT (by repeat (first | (with_reducible first | exact HB.out | apply below_alloc | apply pw_below_drewN | apply below_drew1) | exact HB.out))); rintro e w20 ⟨rfl, hb⟩; refine ⟨_, rfl, ?_⟩; have n0_ := Aside0.mk (below_step (by repeat (first | (with_reducible first | exact HB.out | apply below_alloc | apply pw_below_drewN | apply below_drew1) | exact HB.out)) hb); clear HB; have HB := n0_; clear n0_; (try clear hb); (try clear hb2); (try clear hk); (try clear hi)))
      go_meet
      case rel => exact ⟨_, (true), (by first | rfl | (simp; done) | (simp [*]; done) | (simp; unfold wrap64; omega)), H', ⟨by first | omega | exact Nat.le_refl _⟩, ⟨by repeat (first | (with_reducible first | exact HB.out | apply below_alloc | apply pw_below_drewN | apply below_drew1) | exact HB.out)⟩⟩
  case rest =>
    clear HC8
    try clear c1
    try clear c2
    try clear p2
    try clear c3
    try clear p6
    try clear c9
    try clear c12
    try clear c13
    try clear c13b0
    try clear c13b1
    try clear c14
    try clear c14b0
    try clear c14b1
    try clear c15
    try clear c15b0
    try clear c15b1
    obtain ⟨kq, x56_7, rfl, HA, HJ7, HB⟩ := hcut
    cases kq with
    | zero => exact absurd HA.out (by simp [scribelaw05_NumTexts.j0])
    | succ kj7 =>
      have H := HA.out
      clear HA
      simp only [scribelaw05_NumTexts.j0] at H
      by_cases c21 : x56_7 = true
      · subst c21
        have H1 : (some false) = some r := by rw [if_pos rfl] at H; exact H
        clear H
        have H := H1
        clear H1
        obtain rfl := Option.some.inj H
        go_wp2
        go_ret
        exact ⟨by first | rfl | (simp [errW_none, errW_some] <;> rfl) | (simp [*, errW_none, errW_some] <;> rfl), by repeat (first | (with_reducible first | exact HB.out | apply below_alloc | apply pw_below_drewN | apply below_drew1) | exact HB.out)⟩
      · replace c21 := Bool.eq_false_iff.mpr c21
        subst c21
        have H1 : ((scribelaw05_fit.f a0).bind fun t283 => (if t283 = true then ((num_Num_Text.f kj7 a0).bind fun t284 => ((scriberef05_Text.f kj7 a0).bind fun t285 => (some (t284.toList == t285.toList)))) else (some true))) = some r := by rw [if_neg (show ¬ (false = true) by decide)] at H; exact H
        clear H
        have H := H1
        clear H1
        replace H := Option.bind_eq_some_iff.mp H
        obtain ⟨t283, A220, H⟩ := H
        replace H : (if t283 = true then ((num_Num_Text.f kj7 a0).bind fun t284 => ((scriberef05_Text.f kj7 a0).bind fun t285 => (some (t284.toList == t285.toList)))) else (some true)) = some r := H
        have A22 := Aside0.mk A220
        clear A220
        by_cases c23 : t283 = true
        · subst c23
          have H1 : ((num_Num_Text.f kj7 a0).bind fun t284 => ((scriberef05_Text.f kj7 a0).bind fun t285 => (some (t284.toList == t285.toList)))) = some r := by rw [if_pos rfl] at H; exact H
          clear H
          have H := H1
          clear H1
          replace H := Option.bind_eq_some_iff.mp H
          obtain ⟨t284, A240, H⟩ := H
          replace H : ((scriberef05_Text.f kj7 a0).bind fun t285 => (some (t284.toList == t285.toList))) = some r := H
          have A24 := Aside0.mk A240
          clear A240
          replace H := Option.bind_eq_some_iff.mp H
          obtain ⟨t285, A250, H⟩ := H
          replace H : (some (t284.toList == t285.toList)) = some r := H
          have A25 := Aside0.mk A250
          clear A250
          obtain rfl := Option.some.inj H
          go_wp2_with (first | ((with_reducible refine gate_callee (f := 12) rfl ?_); refine goesL_ (some 58) rfl rfl Tryd.func12 (by kernel_rfl) rfl #[.int .i64 a0] rfl (by (try simp only [List.map_toArray, List.map_cons, List.map_nil]); first | done | rfl | (simp only [List.length_drop, List.length_take]; rfl)) ?_; (with_reducible refine (scribelaw05_fit.calls a0 true _ ?side1 A22.out).mono ?_); (case side1 => exact TB.below hT (by repeat (first | (with_reducible first | exact HB.out | apply below_alloc | apply pw_below_drewN | apply below_drew1) | exact HB.out))); rintro e w' ⟨rfl, ⟨nd, rfl⟩⟩; refine ⟨_, rfl, ?_⟩) | (go_at_call 21; (with_reducible refine (num_Num_Text.calls kj7 a0 t284 _ ?side1 A24.out).mono ?_); (case side1 => exact TB.below hT (by repeat (first | (with_reducible first | exact HB.out | apply below_alloc | apply pw_below_drewN | apply below_drew1) | exact HB.out))); rintro e w26 ⟨rfl, hb⟩; have n0_ := Aside0.mk (below_step (by repeat (first | (with_reducible first | exact HB.out | apply below_alloc | apply pw_below_drewN | apply below_drew1) | exact HB.out)) hb); clear HB; have HB := n0_; clear n0_; (try clear hb); (try clear hb2); (try clear hk); (try clear hi)) | (go_at_call 32; (with_reducible refine (scriberef05_Text.calls kj7 a0 t285 _ ?side1 A25.out).mono ?_); (case side1 => exact TB.below hT (by repeat (first | (with_reducible first | exact HB.out | apply below_alloc | apply pw_below_drewN | apply below_drew1) | exact HB.out))); rintro e w27 ⟨rfl, hb⟩; have n0_ := Aside0.mk (below_step (by repeat (first | (with_reducible first | exact HB.out | apply below_alloc | apply pw_below_drewN | apply below_drew1) | exact HB.out)) hb); clear HB; have HB := n0_; clear n0_; (try clear hb); (try clear hb2); (try clear hk); (try clear hi)))
          go_ret
          exact ⟨by first | rfl | (simp [errW_none, errW_some] <;> rfl) | (simp [*, errW_none, errW_some] <;> rfl), by repeat (first | (with_reducible first | exact HB.out | apply below_alloc | apply pw_below_drewN | apply below_drew1) | exact HB.out)⟩
        · replace c23 := Bool.eq_false_iff.mpr c23
          subst c23
          have H1 : (some true) = some r := by rw [if_neg (show ¬ (false = true) by decide)] at H; exact H
          clear H
          have H := H1
          clear H1
          obtain rfl := Option.some.inj H
          go_wp2_with (first | ((with_reducible refine gate_callee (f := 12) rfl ?_); refine goesL_ (some 58) rfl rfl Tryd.func12 (by kernel_rfl) rfl #[.int .i64 a0] rfl (by (try simp only [List.map_toArray, List.map_cons, List.map_nil]); first | done | rfl | (simp only [List.length_drop, List.length_take]; rfl)) ?_; (with_reducible refine (scribelaw05_fit.calls a0 false _ ?side1 A22.out).mono ?_); (case side1 => exact TB.below hT (by repeat (first | (with_reducible first | exact HB.out | apply below_alloc | apply pw_below_drewN | apply below_drew1) | exact HB.out))); rintro e w' ⟨rfl, ⟨nd, rfl⟩⟩; refine ⟨_, rfl, ?_⟩))
          go_ret
          exact ⟨by first | rfl | (simp [errW_none, errW_some] <;> rfl) | (simp [*, errW_none, errW_some] <;> rfl), by repeat (first | (with_reducible first | exact HB.out | apply below_alloc | apply pw_below_drewN | apply below_drew1) | exact HB.out)⟩

end Go.Proofs.YtcbocfgiegdhmaaDoor.Pr
