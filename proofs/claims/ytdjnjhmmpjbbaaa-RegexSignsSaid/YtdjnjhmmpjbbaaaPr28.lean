/- The machine's side, written by a patched print (wip/tools): each theorem says that a call of the Go function comes to what the Lean function beside it computes, where the tables are laid (TB). -/
import Derived.Test.YtdjnjhmmpjbbaaaPuRxP
import Derived.Test.YtdjnjhmmpjbbaaaPr0
import Derived.Test.YtdjnjhmmpjbbaaaPr2
import Derived.Test.YtdjnjhmmpjbbaaaPr11
import Derived.Test.YtdjnjhmmpjbbaaaPr23
namespace Go.Proofs.Ytdjnjhmmpjbbaaa.Pr
open Go.RowKit Go.Proofs.YtdjnjhmmpjbbaaaW.PrintWords Go.Proofs.YtdjnjhmmpjbbaaaW.PrintLast Go.Proofs.YtdjnjhmmpjbbaaaW.PrintMore
attribute [local go_sem] fld39_0 fld39_1 fld39_2 fld50_0 fld50_1 fld50_2 fld50_3 fld50_4 fld54_0 fld54_1 fld54_2 fld54_3 fld54_4 fld9000_0 fld9000_1 fld9000_2 fld9000_3 fld9000_4 binOp_string_gtr2 binOp_string_leq2 binOp_string_geq2 max2_int min2_int max_two min_two max_three min_three max_four min_four   -- for this text's walks alone
set_option linter.unusedVariables false
set_option linter.unusedSimpArgs false

/-! ### scribelaw09_RegexSigns: function 7 -/
mutual
def scribelaw09_RegexSigns.l0 : Nat → List Int → ByteArray → Int → Int → Int → Int → Int → Int → List (S29) → Option (Bool)
 | 0, _, _, _, _, _, _, _, _, _ => none
 | k + 1, x1, x8, x9, x873000, x873001, x873002, x873003, x873004, x873005 => if x9 < (x1.length : Int) then (scribelaw09_RegexSigns.j1 k x1 x8 x9 (decide (x9 < 10)) x873000 x873001 x873002 x873003 x873004 x873005) else (scribelaw09_RegexSigns.j1 k x1 x8 x9 false x873000 x873001 x873002 x873003 x873004 x873005)
def scribelaw09_RegexSigns.j1 : Nat → List Int → ByteArray → Int → Bool → Int → Int → Int → Int → Int → List (S29) → Option (Bool)
 | 0, _, _, _, _, _, _, _, _, _, _ => none
 | k + 1, x1, x8, x9, x36, x873000, x873001, x873002, x873003, x873004, x873005 => if x36 = true then (if 0 ≤ x9 then (if x9 < (x1.length : Int) then (if (Int.tmod (rd x1 x9) 3) = 1 then (if (Int.tmod (rd x1 x9) 3) = 2 then (if x8.size + 1 ≤ 9223372036854775807 then (scribelaw09_RegexSigns.l0 k x1 (x8 ++ (⟨#[63]⟩ : ByteArray)) (wrap64 (x9 + 1)) 6 0 0 0 0 (([(⟨x873000, (⟨x873001, x873002, x873003, x873004⟩ : S26), x873005⟩ : S29)] : List (S29)))) else (none)) else (if x8.size + 1 ≤ 9223372036854775807 then (scribelaw09_RegexSigns.l0 k x1 (x8 ++ (⟨#[43]⟩ : ByteArray)) (wrap64 (x9 + 1)) 5 0 0 0 0 (([(⟨x873000, (⟨x873001, x873002, x873003, x873004⟩ : S26), x873005⟩ : S29)] : List (S29)))) else (none))) else (if (Int.tmod (rd x1 x9) 3) = 2 then (if x8.size + 1 ≤ 9223372036854775807 then (scribelaw09_RegexSigns.l0 k x1 (x8 ++ (⟨#[63]⟩ : ByteArray)) (wrap64 (x9 + 1)) 6 0 0 0 0 (([(⟨x873000, (⟨x873001, x873002, x873003, x873004⟩ : S26), x873005⟩ : S29)] : List (S29)))) else (none)) else (if x8.size + 1 ≤ 9223372036854775807 then (scribelaw09_RegexSigns.l0 k x1 (x8 ++ (⟨#[42]⟩ : ByteArray)) (wrap64 (x9 + 1)) 4 0 0 0 0 (([(⟨x873000, (⟨x873001, x873002, x873003, x873004⟩ : S26), x873005⟩ : S29)] : List (S29)))) else (none)))) else (none)) else (none)) else ((regex_Parse.f k x8).bind fun bt889 => ((scribelaw09_awake.f k).bind fun t900 => (if t900 = true then (if bt889.2.2.2.2.2.2.2 = 14 then (some true) else (if bt889.2.2.2.2.2.2.2 = 0 then ((regex_Print.f k bt889.1 bt889.2.1 bt889.2.2.1 bt889.2.2.2.1 bt889.2.2.2.2.1 bt889.2.2.2.2.2.1).bind fun t901 => ((regex_Print.f k x873000 x873001 x873002 x873003 x873004 x873005).bind fun t902 => (some (t901.toList == t902.toList)))) else (some false))) else (some false))))
end
def scribelaw09_RegexSigns.f (k : Nat) (a0 : ByteArray) (l1 : List Int) : Option (Bool) := (scribelaw01_Cut.f a0 60).bind fun t861 => ((regex_Parse.f k t861).bind fun bt862 => (if bt862.2.2.2.2.2.2.2 = 0 then (if 1 + t861.size ≤ 9223372036854775807 then (if ((⟨#[40]⟩ : ByteArray) ++ t861).size + 1 ≤ 9223372036854775807 then (scribelaw09_RegexSigns.l0 k l1 (((⟨#[40]⟩ : ByteArray) ++ t861) ++ (⟨#[41]⟩ : ByteArray)) 0 bt862.1 bt862.2.1 bt862.2.2.1 bt862.2.2.2.1 bt862.2.2.2.2.1 bt862.2.2.2.2.2.1) else (none)) else (none)) else ((scribelaw09_awake.f k).bind fun t873 => (some t873))))
theorem scribelaw09_RegexSigns.mono_l : ∀ k, (∀ y0 y1 y2 y3 y4 y5 y6 y7 y8, LeO (scribelaw09_RegexSigns.l0 k y0 y1 y2 y3 y4 y5 y6 y7 y8) (scribelaw09_RegexSigns.l0 (k + 1) y0 y1 y2 y3 y4 y5 y6 y7 y8)) ∧ (∀ y0 y1 y2 y3 y4 y5 y6 y7 y8 y9, LeO (scribelaw09_RegexSigns.j1 k y0 y1 y2 y3 y4 y5 y6 y7 y8 y9) (scribelaw09_RegexSigns.j1 (k + 1) y0 y1 y2 y3 y4 y5 y6 y7 y8 y9))
 | 0 => ⟨fun _ _ _ _ _ _ _ _ _ r h => by simp [scribelaw09_RegexSigns.l0] at h, fun _ _ _ _ _ _ _ _ _ _ r h => by simp [scribelaw09_RegexSigns.j1] at h⟩
 | k + 1 => by
  obtain ⟨ih0, ih1⟩ := scribelaw09_RegexSigns.mono_l k
  refine ⟨?_, ?_⟩
  ·intro y0 y1 y2 y3 y4 y5 y6 y7 y8
   unfold scribelaw09_RegexSigns.l0
   repeat' first
   | (with_reducible exact ih0 _ _ _ _ _ _ _ _ _)
   | (with_reducible exact ih1 _ _ _ _ _ _ _ _ _ _)
   | (with_reducible exact regex_Parse.mono _ _)
   | (with_reducible exact regex_Print.mono _ _ _ _ _ _ _)
   | (with_reducible exact scribelaw09_awake.mono _)
   | (with_reducible exact LeO.refl _)
   | (with_reducible exact LeO.none _)
   | (with_reducible refine LeO.ite ?_ ?_)
   | (with_reducible refine LeO.bind ?_ (fun _ => ?_))
   | exact ih0 _ _ _ _ _ _ _ _ _
   | exact ih1 _ _ _ _ _ _ _ _ _ _
   | exact regex_Parse.mono _ _
   | exact regex_Print.mono _ _ _ _ _ _ _
   | exact scribelaw09_awake.mono _
   | exact LeO.none _
   | refine LeO.ite ?_ ?_
   | refine LeO.bind ?_ (fun _ => ?_)
  ·intro y0 y1 y2 y3 y4 y5 y6 y7 y8 y9
   unfold scribelaw09_RegexSigns.j1
   repeat' first
   | (with_reducible exact ih0 _ _ _ _ _ _ _ _ _)
   | (with_reducible exact ih1 _ _ _ _ _ _ _ _ _ _)
   | (with_reducible exact regex_Parse.mono _ _)
   | (with_reducible exact regex_Print.mono _ _ _ _ _ _ _)
   | (with_reducible exact scribelaw09_awake.mono _)
   | (with_reducible exact LeO.refl _)
   | (with_reducible exact LeO.none _)
   | (with_reducible refine LeO.ite ?_ ?_)
   | (with_reducible refine LeO.bind ?_ (fun _ => ?_))
   | exact ih0 _ _ _ _ _ _ _ _ _
   | exact ih1 _ _ _ _ _ _ _ _ _ _
   | exact regex_Parse.mono _ _
   | exact regex_Print.mono _ _ _ _ _ _ _
   | exact scribelaw09_awake.mono _
   | exact LeO.none _
   | refine LeO.ite ?_ ?_
   | refine LeO.bind ?_ (fun _ => ?_)
theorem scribelaw09_RegexSigns.mono : ∀ a0 a1 k, LeO (scribelaw09_RegexSigns.f k a0 a1) (scribelaw09_RegexSigns.f (k + 1) a0 a1) := by
 intro a0 a1 k
 obtain ⟨ih0, ih1⟩ := scribelaw09_RegexSigns.mono_l k
 unfold scribelaw09_RegexSigns.f
 repeat' first
   | (with_reducible exact ih0 _ _ _ _ _ _ _ _ _)
   | (with_reducible exact ih1 _ _ _ _ _ _ _ _ _ _)
   | (with_reducible exact regex_Parse.mono _ _)
   | (with_reducible exact regex_Print.mono _ _ _ _ _ _ _)
   | (with_reducible exact scribelaw09_awake.mono _)
   | (with_reducible exact LeO.refl _)
   | (with_reducible exact LeO.none _)
   | (with_reducible refine LeO.ite ?_ ?_)
   | (with_reducible refine LeO.bind ?_ (fun _ => ?_))
   | exact ih0 _ _ _ _ _ _ _ _ _
   | exact ih1 _ _ _ _ _ _ _ _ _ _
   | exact regex_Parse.mono _ _
   | exact regex_Print.mono _ _ _ _ _ _ _
   | exact scribelaw09_awake.mono _
   | exact LeO.none _
   | refine LeO.ite ?_ ?_
   | refine LeO.bind ?_ (fun _ => ?_)
def scribelaw09_RegexSigns.T20 : Bool × List (List Nat × List Nat) := (true, [([], []), ([0, 0], [0]), ([1], [1]), ([2, 1], [1, 2]), ([3, 1, 1], [1, 3]), ([4], [4]), ([5, 4], [4, 5]), ([6, 4, 4], [4, 6]), ([7], [7]), ([8, 7, 7], [7, 8]), ([7], [7]), ([10, 9, 7], [7, 10]), ([9, 11, 7], [7, 9, 11]), ([7, 12, 4], [4, 7, 12]), ([4, 13, 1], [1, 4, 13]), ([1, 14], [1, 14]), ([15, 11, 0, 1, 2, 3, 4, 5, 6, 7, 8, 9, 10, 11, 12, 13, 14, 15], [15])])
def scribelaw09_RegexSigns.B20 : List Nat := [0, 1, 3, 7, 15, 31, 63, 127, 255, 511, 255, 2047, 4095, 8191, 16383, 32767, 65535]
theorem scribelaw09_RegexSigns.tab20 : rtab .any (opsOf Try.f7 20) = scribelaw09_RegexSigns.T20 := by kernel_rfl
theorem scribelaw09_RegexSigns.bits20 : waitsOk scribelaw09_RegexSigns.T20.2 scribelaw09_RegexSigns.B20 = true := by kernel_rfl
set_option maxHeartbeats 8000000 in
set_option maxRecDepth 100000 in
theorem scribelaw09_RegexSigns.calls (k : Nat) (a0 : ByteArray) (A1 : Option Addr) (c1 : Nat) (l1 : List Int) (r : Bool) (w : World) (hr1 : Kd.C (Kd.int .u8) w A1 l1.length l1) (hc1 : l1.length ≤ c1) (hT : TB w) (h : scribelaw09_RegexSigns.f k a0 l1 = some r) :
  Calls Try.prog 7 #[.string a0, .slice A1 l1.length c1] w fun e w' => e = .returned (.bool r) ∧ Below w.heap.size w w' := by
 have hu29 := Try.underlying29
 have HR1 := Aside0.mk hr1
 have HC1 := Aside0.mk hc1
 clear hr1 hc1
 have HB := Aside0.mk (Below.refl w.heap.size w)
 have H : ((scribelaw01_Cut.f a0 60).bind fun t861 => ((regex_Parse.f k t861).bind fun bt862 => (if bt862.2.2.2.2.2.2.2 = 0 then (if 1 + t861.size ≤ 9223372036854775807 then (if ((⟨#[40]⟩ : ByteArray) ++ t861).size + 1 ≤ 9223372036854775807 then (scribelaw09_RegexSigns.l0 k l1 (((⟨#[40]⟩ : ByteArray) ++ t861) ++ (⟨#[41]⟩ : ByteArray)) 0 bt862.1 bt862.2.1 bt862.2.2.1 bt862.2.2.2.1 bt862.2.2.2.2.1 bt862.2.2.2.2.2.1) else (none)) else (none)) else ((scribelaw09_awake.f k).bind fun t873 => (some t873))))) = some r := h
 clear h
 replace H := Option.bind_eq_some_iff.mp H
 obtain ⟨t861, A30, H⟩ := H
 replace H : ((regex_Parse.f k t861).bind fun bt862 => (if bt862.2.2.2.2.2.2.2 = 0 then (if 1 + t861.size ≤ 9223372036854775807 then (if ((⟨#[40]⟩ : ByteArray) ++ t861).size + 1 ≤ 9223372036854775807 then (scribelaw09_RegexSigns.l0 k l1 (((⟨#[40]⟩ : ByteArray) ++ t861) ++ (⟨#[41]⟩ : ByteArray)) 0 bt862.1 bt862.2.1 bt862.2.2.1 bt862.2.2.2.1 bt862.2.2.2.2.1 bt862.2.2.2.2.2.1) else (none)) else (none)) else ((scribelaw09_awake.f k).bind fun t873 => (some t873)))) = some r := H
 have A3 := Aside0.mk A30
 clear A30
 replace H := Option.bind_eq_some_iff.mp H
 obtain ⟨⟨t862, t863, t864, t865, t866, t867, t870, t871⟩, A40, H⟩ := H
 replace H : (if t871 = 0 then (if 1 + t861.size ≤ 9223372036854775807 then (if ((⟨#[40]⟩ : ByteArray) ++ t861).size + 1 ≤ 9223372036854775807 then (scribelaw09_RegexSigns.l0 k l1 (((⟨#[40]⟩ : ByteArray) ++ t861) ++ (⟨#[41]⟩ : ByteArray)) 0 t862 t863 t864 t865 t866 t867) else (none)) else (none)) else ((scribelaw09_awake.f k).bind fun t873 => (some t873))) = some r := H
 have A4 := Aside0.mk A40
 clear A40
 by_cases c5 : t871 = 0
 ·rw [if_pos c5] at H
  have c5b0 : (t871 == 0) = true := beq_iff_eq.mpr c5
  have c5b1 : (t871 != 0) = false := bne_eq_false_iff_eq.mpr c5
  clear c5
  by_cases c6 : 1 + t861.size ≤ 9223372036854775807
  ·rw [if_pos c6] at H
   have c6b0 := eq_true c6
   have c6b1 : decide (1 + t861.size ≤ 9223372036854775807) = true := decide_eq_true c6
   try have c6b2 : (9223372036854775807 < 1 + t861.size) = False := eq_false (Nat.not_lt.2 c6)
   try (have c6b3 := c6b2; simp only [ByteArray.size_append', ba_size_mk, List.size_toArray, List.length_cons, List.length_nil, Nat.zero_add, Nat.reduceAdd, ByteArray.size_extract, Nat.min_self, Nat.sub_zero] at c6b3)
   by_cases c7 : ((⟨#[40]⟩ : ByteArray) ++ t861).size + 1 ≤ 9223372036854775807
   ·rw [if_pos c7] at H
    have c7b0 := eq_true c7
    have c7b1 : decide (((⟨#[40]⟩ : ByteArray) ++ t861).size + 1 ≤ 9223372036854775807) = true := decide_eq_true c7
    try have c7b2 : (9223372036854775807 < ((⟨#[40]⟩ : ByteArray) ++ t861).size + 1) = False := eq_false (Nat.not_lt.2 c7)
    try (have c7b3 := c7b2; simp only [ByteArray.size_append', ba_size_mk, List.size_toArray, List.length_cons, List.length_nil, Nat.zero_add, Nat.reduceAdd, ByteArray.size_extract, Nat.min_self, Nat.sub_zero] at c7b3)
    have H' := Aside0.mk H
    clear H
    go_enter Try.func7, Try.ntmps7
    go_wp2_with (first | ((with_reducible refine gate_callee (f := 9) rfl ?_); refine goesL_ (some 16) rfl rfl Try.func9 (by kernel_rfl) rfl #[.string a0, .int .i64 60] rfl (by (try simp only [List.map_toArray, List.map_cons, List.map_nil]); first | done | rfl | (simp only [List.length_drop, List.length_take]; rfl)) ?_; (with_reducible refine (scribelaw01_Cut.calls a0 60 t861 _ ?side1 A3.out).mono ?_); (case side1 => exact TB.below hT (by repeat (first | (with_reducible first | exact HB.out | apply below_alloc | apply pw_below_drewN | apply below_drew1) | exact HB.out))); rintro e w' ⟨rfl, ⟨nd, rfl⟩⟩; refine ⟨_, rfl, ?_⟩) | ((with_reducible refine gate_callee (f := 10) rfl ?_); refine goesL_ (some 19) rfl rfl Try.func10 (by kernel_rfl) rfl #[.string t861] rfl (by (try simp only [List.map_toArray, List.map_cons, List.map_nil]); first | done | rfl | (simp only [List.length_drop, List.length_take]; rfl)) ?_; (with_reducible refine (regex_Parse.calls k t861 t862 t863 t864 t865 t866 t867 t870 t871 _ ?side1 A4.out).mono ?_); (case side1 => exact TB.below hT (by repeat (first | (with_reducible first | exact HB.out | apply below_alloc | apply pw_below_drewN | apply below_drew1) | exact HB.out))); rintro e w8 ⟨v868, rfl, ho0, hb⟩; refine ⟨_, rfl, ?_⟩; have n0_ := Aside0.mk (Kd.R_lower ho0 (below_size (by repeat (first | (with_reducible first | exact HB.out | apply below_alloc | apply pw_below_drewN | apply below_drew1) | exact HB.out)))); have n1_ := Aside0.mk (below_step (by repeat (first | (with_reducible first | exact HB.out | apply below_alloc | apply pw_below_drewN | apply below_drew1) | exact HB.out)) hb); clear HB; have HO869 := n0_; have HB := n1_; clear n0_ n1_; (try clear hb); (try clear hb2); (try clear hk); (try clear hi); (try clear ho0)) | ((with_reducible refine gate_dst (N := 5) rfl ?_); refine box_event ?hg (N := 5) ?hd (cs := #[.int .i64 0, .int .u64 0, .int .u64 0, .int .u64 0, .int .u64 0, .slice none 0 0]) (t := 29) ?hr ?_; (case hd => rfl); (case hg => rfl); (case hr => first | (go_simp; done) | (go_simp; rfl)); intro gb872 hg w9 hbox hb; have n0_ := Aside0.mk (Kd.R_below (Kd.R_elderB (by (with_reducible repeat (first | apply Kd.R_alloc | apply Kd.R_drewN | apply Kd.R_drew)); exact HO869.out) gb872 (Nat.le_of_eq hg.symm)) hb); have n1_ := Aside0.mk (below_step (by repeat (first | (with_reducible first | exact HB.out | apply below_alloc | apply pw_below_drewN | apply below_drew1) | exact HB.out)) hb); have n2_ := Aside0.mk (hbox); have n3_ := Aside0.mk ((by rw [hg]; exact (below_size (by repeat (first | (with_reducible first | exact HB.out | apply below_alloc | apply pw_below_drewN | apply below_drew1) | exact HB.out))) : w.heap.size ≤ gb872)); have n4_ := Aside0.mk ((by rw [hg]; exact (below_size (by repeat (first | (with_reducible first | exact HB.out | apply below_alloc | apply pw_below_drewN | apply below_drew1) | exact HB.out))) : w.heap.size ≤ gb872)); clear HO869; clear HB; have HO869 := n0_; have HB := n1_; have BK872 := n2_; have GW872 := n3_; have GE872 := n4_; clear n0_ n1_ n2_ n3_ n4_; clear hb hbox hg; have hcz10_0 : w9.cell? ⟨gb872, 0, none⟩ = some (.int .i64 0) := (blk_cell BK872.out 0).trans rfl; have hcz10_1 : w9.cell? ⟨gb872, 1, none⟩ = some (.int .u64 0) := (blk_cell BK872.out 1).trans rfl; have hcz10_2 : w9.cell? ⟨gb872, 2, none⟩ = some (.int .u64 0) := (blk_cell BK872.out 2).trans rfl; have hcz10_3 : w9.cell? ⟨gb872, 3, none⟩ = some (.int .u64 0) := (blk_cell BK872.out 3).trans rfl; have hcz10_4 : w9.cell? ⟨gb872, 4, none⟩ = some (.int .u64 0) := (blk_cell BK872.out 4).trans rfl; have hcz10_5 : w9.cell? ⟨gb872, 5, none⟩ = some (.slice none 0 0) := (blk_cell BK872.out 5).trans rfl; have hfz10_0 := blk_frozen BK872.out 0; have hfz10_1 := blk_frozen BK872.out 1; have hfz10_2 := blk_frozen BK872.out 2; have hfz10_3 := blk_frozen BK872.out 3; have hfz10_4 := blk_frozen BK872.out 4; have hfz10_5 := blk_frozen BK872.out 5; obtain ⟨Ao11, co11, eo11⟩ := Kd.R_slice HO869.out; subst eo11))
    go_loopg [8, 9] k (fun kq v8 v9 w' => ∃ (x8_1 : ByteArray) (x9_1 : Int) (x873000_1 : Int) (x873001_1 : Int) (x873002_1 : Int) (x873003_1 : Int) (x873004_1 : Int) (x873005_1 : List (S29)) (u873005 : Value), v8 = .string x8_1 ∧ v9 = .int .i64 x9_1 ∧ Aside0 (scribelaw09_RegexSigns.l0 kq l1 x8_1 x9_1 x873000_1 x873001_1 x873002_1 x873003_1 x873004_1 x873005_1 = some r) ∧ Aside0 (kq ≤ k) ∧ Aside0 (Kd.R k29 29 w' w.heap.size (fun k_ => k_ ≠ gb872) u873005 x873005_1) ∧ Aside0 (w'.heap[gb872]? = some (.cells #[.int .i64 x873000_1, .int .u64 x873001_1, .int .u64 x873002_1, .int .u64 x873003_1, .int .u64 x873004_1, u873005] 29 (0, 0))) ∧ Aside0 (Below w.heap.size w w'))
    case atStart => exact ⟨(((⟨#[40]⟩ : ByteArray) ++ t861) ++ (⟨#[41]⟩ : ByteArray)), (0), (t862), (t863), (t864), (t865), (t866), (t867), (.slice Ao11 t867.length co11), (by first | rfl | (simp; done) | (simp [*]; done) | (simp; unfold wrap64; omega)), (by first | rfl | (simp; done) | (simp [*]; done) | (simp; unfold wrap64; omega)), H', ⟨Nat.le_refl _⟩, ⟨by (with_reducible repeat (first | apply Kd.R_alloc | apply Kd.R_drewN | apply Kd.R_drew)); exact Kd.R_mono (Kd.R_far (p := ⟨gb872, 5, none⟩) (Kd.R_far (p := ⟨gb872, 4, none⟩) (Kd.R_far (p := ⟨gb872, 3, none⟩) (Kd.R_far (p := ⟨gb872, 2, none⟩) (Kd.R_far (p := ⟨gb872, 1, none⟩) (Kd.R_far (p := ⟨gb872, 0, none⟩) (Kd.R_mono HO869.out (fun k_ hk => (⟨hk, hk.2⟩ : _ ∧ k_ ≠ gb872))) (fun _ hk => hk.2) (.int .i64 t862)) (fun _ hk => hk.2) (.int .u64 t863)) (fun _ hk => hk.2) (.int .u64 t864)) (fun _ hk => hk.2) (.int .u64 t865)) (fun _ hk => hk.2) (.int .u64 t866)) (fun _ hk => hk.2) (.slice Ao11 t867.length co11)) (fun _ hk => hk.1.2)⟩, ⟨by (with_reducible repeat (first | refine blk_drewN ?_ _ | refine blk_drew ?_ | refine blk_alloc ?_ _)); refine blk_put (cs := #[.int .i64 t862, .int .u64 t863, .int .u64 t864, .int .u64 t865, .int .u64 t866, .slice none 0 0]) ?_ 5 _ rfl; (with_reducible repeat (first | refine blk_drewN ?_ _ | refine blk_drew ?_ | refine blk_alloc ?_ _)); refine blk_put (cs := #[.int .i64 t862, .int .u64 t863, .int .u64 t864, .int .u64 t865, .int .u64 0, .slice none 0 0]) ?_ 4 _ rfl; (with_reducible repeat (first | refine blk_drewN ?_ _ | refine blk_drew ?_ | refine blk_alloc ?_ _)); refine blk_put (cs := #[.int .i64 t862, .int .u64 t863, .int .u64 t864, .int .u64 0, .int .u64 0, .slice none 0 0]) ?_ 3 _ rfl; (with_reducible repeat (first | refine blk_drewN ?_ _ | refine blk_drew ?_ | refine blk_alloc ?_ _)); refine blk_put (cs := #[.int .i64 t862, .int .u64 t863, .int .u64 0, .int .u64 0, .int .u64 0, .slice none 0 0]) ?_ 2 _ rfl; (with_reducible repeat (first | refine blk_drewN ?_ _ | refine blk_drew ?_ | refine blk_alloc ?_ _)); refine blk_put (cs := #[.int .i64 t862, .int .u64 0, .int .u64 0, .int .u64 0, .int .u64 0, .slice none 0 0]) ?_ 1 _ rfl; (with_reducible repeat (first | refine blk_drewN ?_ _ | refine blk_drew ?_ | refine blk_alloc ?_ _)); refine blk_put (cs := #[.int .i64 0, .int .u64 0, .int .u64 0, .int .u64 0, .int .u64 0, .slice none 0 0]) ?_ 0 _ rfl; (with_reducible repeat (first | refine blk_drewN ?_ _ | refine blk_drew ?_ | refine blk_alloc ?_ _)); exact BK872.out⟩, ⟨by repeat (first | (with_reducible first | exact HB.out | apply below_alloc | apply pw_below_drewN | apply below_drew1 | refine below_set ?_ GE872.out) | exact HB.out)⟩⟩
    case round =>
     clear H'
     try clear c1
     try clear p2
     try clear c5
     try clear c5b0
     try clear c5b1
     try clear c6
     try clear c6b0
     try clear c6b1
     try clear c6b2
     try clear p6
     try clear c7
     try clear c7b0
     try clear c7b1
     try clear c7b2
     try clear c9
     try clear c10
     try clear hcz10_0
     try clear hcz10_1
     try clear hcz10_2
     try clear hcz10_3
     try clear hcz10_4
     try clear hcz10_5
     try clear hfz10_0
     try clear hfz10_1
     try clear hfz10_2
     try clear hfz10_3
     try clear hfz10_4
     try clear hfz10_5
     obtain ⟨x8_1, x9_1, x873000_1, x873001_1, x873002_1, x873003_1, x873004_1, x873005_1, u873005, rfl, rfl, HA, HK1, HO_873005, BK872, HB⟩ := hrel
     cases gk with
     | zero => exact absurd HA.out (by simp [scribelaw09_RegexSigns.l0])
     | succ k1 =>
      have H := HA.out
      clear HA
      simp only [scribelaw09_RegexSigns.l0] at H
      have HC12 := Aside0.mk H
      clear H
      go_upto_region 7 with (fail)
      go_cut [36] (fun v36 wc => ∃ (kq : Nat) (x36_11 : Bool), v36 = .bool x36_11 ∧ Aside0 (scribelaw09_RegexSigns.j1 kq l1 x8_1 x9_1 x36_11 x873000_1 x873001_1 x873002_1 x873003_1 x873004_1 x873005_1 = some r) ∧ Aside0 (kq ≤ k1) ∧ Aside0 (Kd.R k29 29 wc w.heap.size (fun k_ => k_ ≠ gb872) u873005 x873005_1) ∧ Aside0 (wc.heap[gb872]? = some (.cells #[.int .i64 x873000_1, .int .u64 x873001_1, .int .u64 x873002_1, .int .u64 x873003_1, .int .u64 x873004_1, u873005] 29 (0, 0))) ∧ Aside0 (Below w.heap.size w wc))
      case first =>
       have H := HC12.out
       clear HC12
       by_cases c13 : x9_1 < (l1.length : Int)
       ·rw [if_pos c13] at H
        have c13b0 : decide (x9_1 < (l1.length : Int)) = true := decide_eq_true c13
        clear c13
        (first | rw [c13b0] | (simp only [i64_w, i32_w]; rw [c13b0]) | skip)
        have H' := Aside0.mk H
        clear H
        go_wp2
        go_meet
        case rel => exact ⟨_, (decide (x9_1 < 10)), (by first | rfl | (simp; done) | (simp [*]; done) | (simp; unfold wrap64; omega)), H', ⟨by have := HK1.out; first | omega | exact Nat.le_refl _⟩, ⟨by (with_reducible repeat (first | apply Kd.R_alloc | apply Kd.R_drewN | apply Kd.R_drew)); exact HO_873005.out⟩, ⟨by (with_reducible repeat (first | refine blk_drewN ?_ _ | refine blk_drew ?_ | refine blk_alloc ?_ _)); exact BK872.out⟩, ⟨by repeat (first | (with_reducible first | exact HB.out | apply below_alloc | apply pw_below_drewN | apply below_drew1 | refine below_set ?_ GE872.out) | exact HB.out)⟩⟩
       ·rw [if_neg c13] at H
        have c13b0 : decide (x9_1 < (l1.length : Int)) = false := decide_eq_false c13
        clear c13
        (first | rw [c13b0] | (simp only [i64_w, i32_w]; rw [c13b0]) | skip)
        have H' := Aside0.mk H
        clear H
        go_wp2
        go_meet
        case rel => exact ⟨_, (false), (by first | rfl | (simp; done) | (simp [*]; done) | (simp; unfold wrap64; omega)), H', ⟨by have := HK1.out; first | omega | exact Nat.le_refl _⟩, ⟨by (with_reducible repeat (first | apply Kd.R_alloc | apply Kd.R_drewN | apply Kd.R_drew)); exact HO_873005.out⟩, ⟨by (with_reducible repeat (first | refine blk_drewN ?_ _ | refine blk_drew ?_ | refine blk_alloc ?_ _)); exact BK872.out⟩, ⟨by repeat (first | (with_reducible first | exact HB.out | apply below_alloc | apply pw_below_drewN | apply below_drew1 | refine below_set ?_ GE872.out) | exact HB.out)⟩⟩
      case rest =>
       clear HC12
       try clear c1
       try clear p2
       try clear c5
       try clear c5b0
       try clear c5b1
       try clear c6
       try clear c6b0
       try clear c6b1
       try clear c6b2
       try clear p6
       try clear c7
       try clear c7b0
       try clear c7b1
       try clear c7b2
       try clear c9
       try clear c10
       try clear c13
       try clear c13b0
       try clear hcz10_0
       try clear hcz10_1
       try clear hcz10_2
       try clear hcz10_3
       try clear hcz10_4
       try clear hcz10_5
       try clear hfz10_0
       try clear hfz10_1
       try clear hfz10_2
       try clear hfz10_3
       try clear hfz10_4
       try clear hfz10_5
       try clear p2
       try clear p6
       obtain ⟨kq, x36_11, rfl, HA, HJ11, HO_873005, BK872, HB⟩ := hcut
       cases kq with
       | zero => exact absurd HA.out (by simp [scribelaw09_RegexSigns.j1])
       | succ kj11 =>
        have H := HA.out
        clear HA
        simp only [scribelaw09_RegexSigns.j1] at H
        by_cases c14 : x36_11 = true
        ·subst c14
         have H1 : (if 0 ≤ x9_1 then (if x9_1 < (l1.length : Int) then (if (Int.tmod (rd l1 x9_1) 3) = 1 then (if (Int.tmod (rd l1 x9_1) 3) = 2 then (if x8_1.size + 1 ≤ 9223372036854775807 then (scribelaw09_RegexSigns.l0 kj11 l1 (x8_1 ++ (⟨#[63]⟩ : ByteArray)) (wrap64 (x9_1 + 1)) 6 0 0 0 0 (([(⟨x873000_1, (⟨x873001_1, x873002_1, x873003_1, x873004_1⟩ : S26), x873005_1⟩ : S29)] : List (S29)))) else (none)) else (if x8_1.size + 1 ≤ 9223372036854775807 then (scribelaw09_RegexSigns.l0 kj11 l1 (x8_1 ++ (⟨#[43]⟩ : ByteArray)) (wrap64 (x9_1 + 1)) 5 0 0 0 0 (([(⟨x873000_1, (⟨x873001_1, x873002_1, x873003_1, x873004_1⟩ : S26), x873005_1⟩ : S29)] : List (S29)))) else (none))) else (if (Int.tmod (rd l1 x9_1) 3) = 2 then (if x8_1.size + 1 ≤ 9223372036854775807 then (scribelaw09_RegexSigns.l0 kj11 l1 (x8_1 ++ (⟨#[63]⟩ : ByteArray)) (wrap64 (x9_1 + 1)) 6 0 0 0 0 (([(⟨x873000_1, (⟨x873001_1, x873002_1, x873003_1, x873004_1⟩ : S26), x873005_1⟩ : S29)] : List (S29)))) else (none)) else (if x8_1.size + 1 ≤ 9223372036854775807 then (scribelaw09_RegexSigns.l0 kj11 l1 (x8_1 ++ (⟨#[42]⟩ : ByteArray)) (wrap64 (x9_1 + 1)) 4 0 0 0 0 (([(⟨x873000_1, (⟨x873001_1, x873002_1, x873003_1, x873004_1⟩ : S26), x873005_1⟩ : S29)] : List (S29)))) else (none)))) else (none)) else (none)) = some r := by rw [if_pos rfl] at H; exact H
         clear H
         have H := H1
         clear H1
         by_cases c15 : 0 ≤ x9_1
         ·rw [if_pos c15] at H
          have c15b0 : decide (0 ≤ x9_1) = true := decide_eq_true c15
          clear c15
          by_cases c16 : x9_1 < (l1.length : Int)
          ·rw [if_pos c16] at H
           have c16b0 : decide (x9_1 < (l1.length : Int)) = true := decide_eq_true c16
           clear c16
           by_cases c17 : (Int.tmod (rd l1 x9_1) 3) = 1
           ·rw [if_pos c17] at H
            have c17b0 : ((Int.tmod (rd l1 x9_1) 3) == 1) = true := beq_iff_eq.mpr c17
            have c17b1 : ((Int.tmod (rd l1 x9_1) 3) != 1) = false := bne_eq_false_iff_eq.mpr c17
            clear c17
            by_cases c18 : (Int.tmod (rd l1 x9_1) 3) = 2
            ·rw [if_pos c18] at H
             have c18b0 : ((Int.tmod (rd l1 x9_1) 3) == 2) = true := beq_iff_eq.mpr c18
             have c18b1 : ((Int.tmod (rd l1 x9_1) 3) != 2) = false := bne_eq_false_iff_eq.mpr c18
             clear c18
             by_cases c19 : x8_1.size + 1 ≤ 9223372036854775807
             ·rw [if_pos c19] at H
              have c19b0 := eq_true c19
              have c19b1 : decide (x8_1.size + 1 ≤ 9223372036854775807) = true := decide_eq_true c19
              try have c19b2 : (9223372036854775807 < x8_1.size + 1) = False := eq_false (Nat.not_lt.2 c19)
              try (have c19b3 := c19b2; simp only [ByteArray.size_append', ba_size_mk, List.size_toArray, List.length_cons, List.length_nil, Nat.zero_add, Nat.reduceAdd, ByteArray.size_extract, Nat.min_self, Nat.sub_zero] at c19b3)
              obtain ⟨y876, hy876⟩ : ∃ y_ : List (S29), y_ = (([(⟨x873000_1, (⟨x873001_1, x873002_1, x873003_1, x873004_1⟩ : S26), x873005_1⟩ : S29)] : List (S29))) := ⟨_, rfl⟩
              replace H : (scribelaw09_RegexSigns.l0 kj11 l1 (x8_1 ++ (⟨#[63]⟩ : ByteArray)) (wrap64 (x9_1 + 1)) 6 0 0 0 0 y876) = some r := by first | (rw [hy876]; with_reducible exact H) | (have H2_ := (Option.bind_some _ _).symm.trans H; rw [hy876]; with_reducible exact H2_) | (have H2_ := (Option.bind_some _ _).symm.trans H; with_reducible exact H2_) | with_reducible exact H | (rw [hy876]; exact H) | exact H
              have Ny876 := Aside0.mk hy876
              clear hy876
              have H' := Aside0.mk H
              clear H
              have p874 : 0 ≤ (x9_1 : Int) := of_decide_eq_true (by first | (with_reducible assumption) | assumption)
              have q874 : x9_1 < (l1.length : Int) := of_decide_eq_true (by first | (with_reducible assumption) | assumption)
              obtain ⟨ad874, e874, hx874_0⟩ := Kd.at_int HR1.out x9_1 p874 q874
              cases e874
              replace hx874_0 := (HB.out.cell (World.block_lt_of_cell? w _ hx874_0)).trans hx874_0
              replace p874 := eq_true p874
              replace q874 := eq_true q874
              have p875 : 0 ≤ (x9_1 : Int) := of_decide_eq_true (by first | (with_reducible assumption) | assumption)
              have q875 : x9_1 < (l1.length : Int) := of_decide_eq_true (by first | (with_reducible assumption) | assumption)
              obtain ⟨ad875, e875, hx875_0⟩ := Kd.at_int HR1.out x9_1 p875 q875
              obtain rfl : ad874 = ad875 := (by injection e875)
              replace hx875_0 := (HB.out.cell (World.block_lt_of_cell? w _ hx875_0)).trans hx875_0
              replace p875 := eq_true p875
              replace q875 := eq_true q875
              have hcz20_0 : wc.cell? ⟨gb872, 0, none⟩ = some (.int .i64 x873000_1) := (blk_cell BK872.out 0).trans rfl
              have hcz20_1 : wc.cell? ⟨gb872, 1, none⟩ = some (.int .u64 x873001_1) := (blk_cell BK872.out 1).trans rfl
              have hcz20_2 : wc.cell? ⟨gb872, 2, none⟩ = some (.int .u64 x873002_1) := (blk_cell BK872.out 2).trans rfl
              have hcz20_3 : wc.cell? ⟨gb872, 3, none⟩ = some (.int .u64 x873003_1) := (blk_cell BK872.out 3).trans rfl
              have hcz20_4 : wc.cell? ⟨gb872, 4, none⟩ = some (.int .u64 x873004_1) := (blk_cell BK872.out 4).trans rfl
              have hcz20_5 : wc.cell? ⟨gb872, 5, none⟩ = some (u873005) := (blk_cell BK872.out 5).trans rfl
              have hfz20_0 := blk_frozen BK872.out 0
              have hfz20_1 := blk_frozen BK872.out 1
              have hfz20_2 := blk_frozen BK872.out 2
              have hfz20_3 := blk_frozen BK872.out 3
              have hfz20_4 := blk_frozen BK872.out 4
              have hfz20_5 := blk_frozen BK872.out 5
              obtain ⟨Ao21, co21, eo21⟩ := Kd.R_slice HO_873005.out
              subst eo21
              go_wp2_with (first | ((with_reducible refine gate_dst (N := 56) rfl ?_); refine Kd.R_lit k29 w.heap.size 29 ?hg (N := 56) ?hd (xs := ([(⟨x873000_1, (⟨x873001_1, x873002_1, x873003_1, x873004_1⟩ : S26), x873005_1⟩ : S29)] : List (S29))) (inner := [.int .i64 x873000_1, .int .u64 x873001_1, .int .u64 x873002_1, .int .u64 x873003_1, .int .u64 x873004_1, .slice Ao21 x873005_1.length co21]) (ok := (fun k_ => k_ ≠ gb872)) (okp := (fun k_ => k_ ≠ gb872)) ?hr ?hp (fun _ hk => hk) (Kd.freshB (g := gb872) (o := .cells #[.int .i64 x873000_1, .int .u64 x873001_1, .int .u64 x873002_1, .int .u64 x873003_1, .int .u64 x873004_1, .slice Ao21 x873005_1.length co21] 29 (0, 0)) (by (with_reducible repeat (first | refine blk_drewN ?_ _ | refine blk_drew ?_ | refine blk_alloc ?_ _)); exact BK872.out) _ (Nat.le_refl _)) (Below.refl _ _) ((below_size (by repeat (first | (with_reducible first | exact HB.out | apply below_alloc | apply pw_below_drewN | apply below_drew1 | refine below_set ?_ GE872.out) | exact HB.out)))) (by simp) ?_; (case hd => rfl); (case hg => rfl); (case hr => first | (go_simp; done) | (go_simp; rfl)); (case hp => exact (Reps.c6 (show Kd.M k29 _ _ _ (⟨x873000_1, (⟨x873001_1, x873002_1, x873003_1, x873004_1⟩ : S26), x873005_1⟩ : S29) [.int .i64 x873000_1, .int .u64 x873001_1, .int .u64 x873002_1, .int .u64 x873003_1, .int .u64 x873004_1, .slice Ao21 x873005_1.length co21] from (k29_mkM _ _ _ (⟨x873000_1, (⟨x873001_1, x873002_1, x873003_1, x873004_1⟩ : S26), x873005_1⟩ : S29) (Kd.R_mono (HO_873005.out) (fun k_ hk => hk)))) (Reps.none _ _))); intro v877 w22 ho23 hb0_ hg_ hnew0_; have hb := lr_below hg_; have hnew_ := lr_base hnew0_; clear hb0_ hg_ hnew0_; (first | rw [← Ny876.out] at ho23 | (simp only [Int.reduceToNat] at ho23; rw [← Ny876.out] at ho23)); have n0_ := Aside0.mk (ho23); have n1_ := Aside0.mk (blk_below (g := gb872) (o := .cells #[.int .i64 x873000_1, .int .u64 x873001_1, .int .u64 x873002_1, .int .u64 x873003_1, .int .u64 x873004_1, .slice Ao21 x873005_1.length co21] 29 (0, 0)) (by (with_reducible repeat (first | refine blk_drewN ?_ _ | refine blk_drew ?_ | refine blk_alloc ?_ _)); exact BK872.out) hb); have n2_ := Aside0.mk (below_step (by repeat (first | (with_reducible first | exact HB.out | apply below_alloc | apply pw_below_drewN | apply below_drew1 | refine below_set ?_ GE872.out) | exact HB.out)) hb); clear BK872; clear HB; clear HO_873005; have HO878 := n0_; have BK872 := n1_; have HB := n2_; clear n0_ n1_ n2_; clear hb ho23 hnew_; obtain ⟨Ao24, co24, eo24⟩ := Kd.R_slice HO878.out; subst eo24; have hcz25_0 : w22.cell? ⟨gb872, 0, none⟩ = some (.int .i64 x873000_1) := (blk_cell BK872.out 0).trans rfl; have hcz25_1 : w22.cell? ⟨gb872, 1, none⟩ = some (.int .u64 x873001_1) := (blk_cell BK872.out 1).trans rfl; have hcz25_2 : w22.cell? ⟨gb872, 2, none⟩ = some (.int .u64 x873002_1) := (blk_cell BK872.out 2).trans rfl; have hcz25_3 : w22.cell? ⟨gb872, 3, none⟩ = some (.int .u64 x873003_1) := (blk_cell BK872.out 3).trans rfl; have hcz25_4 : w22.cell? ⟨gb872, 4, none⟩ = some (.int .u64 x873004_1) := (blk_cell BK872.out 4).trans rfl; have hcz25_5 : w22.cell? ⟨gb872, 5, none⟩ = some (.slice Ao21 x873005_1.length co21) := (blk_cell BK872.out 5).trans rfl; have hfz25_0 := blk_frozen BK872.out 0; have hfz25_1 := blk_frozen BK872.out 1; have hfz25_2 := blk_frozen BK872.out 2; have hfz25_3 := blk_frozen BK872.out 3; have hfz25_4 := blk_frozen BK872.out 4; have hfz25_5 := blk_frozen BK872.out 5))
              go_roundg kj11
              case measure => have := HK1.out; have := HJ11.out; omega
              case rel => exact ⟨(x8_1 ++ (⟨#[63]⟩ : ByteArray)), (wrap64 (x9_1 + 1)), (6), (0), (0), (0), (0), (y876), (.slice Ao24 y876.length co24), (by first | rfl | (simp; done) | (simp [*]; done) | (simp; unfold wrap64; omega)), (by first | rfl | (simp; done) | (simp [*]; done) | (simp; unfold wrap64; omega)), H', ⟨by have := HK1.out; have := HJ11.out; omega⟩, ⟨by (with_reducible repeat (first | apply Kd.R_alloc | apply Kd.R_drewN | apply Kd.R_drew)); exact Kd.R_mono (Kd.R_far (p := ⟨gb872, 5, none⟩) (Kd.R_far (p := ⟨gb872, 4, none⟩) (Kd.R_far (p := ⟨gb872, 3, none⟩) (Kd.R_far (p := ⟨gb872, 2, none⟩) (Kd.R_far (p := ⟨gb872, 1, none⟩) (Kd.R_far (p := ⟨gb872, 0, none⟩) (Kd.R_mono HO878.out (fun k_ hk => (⟨hk, hk⟩ : _ ∧ k_ ≠ gb872))) (fun _ hk => hk.2) (.int .i64 6)) (fun _ hk => hk.2) (.int .u64 0)) (fun _ hk => hk.2) (.int .u64 0)) (fun _ hk => hk.2) (.int .u64 0)) (fun _ hk => hk.2) (.int .u64 0)) (fun _ hk => hk.2) (.slice Ao24 y876.length co24)) (fun _ hk => hk.1)⟩, ⟨by (with_reducible repeat (first | refine blk_drewN ?_ _ | refine blk_drew ?_ | refine blk_alloc ?_ _)); refine blk_put (cs := #[.int .i64 6, .int .u64 0, .int .u64 0, .int .u64 0, .int .u64 0, .slice Ao21 x873005_1.length co21]) ?_ 5 _ rfl; (with_reducible repeat (first | refine blk_drewN ?_ _ | refine blk_drew ?_ | refine blk_alloc ?_ _)); refine blk_put (cs := #[.int .i64 6, .int .u64 0, .int .u64 0, .int .u64 0, .int .u64 x873004_1, .slice Ao21 x873005_1.length co21]) ?_ 4 _ rfl; (with_reducible repeat (first | refine blk_drewN ?_ _ | refine blk_drew ?_ | refine blk_alloc ?_ _)); refine blk_put (cs := #[.int .i64 6, .int .u64 0, .int .u64 0, .int .u64 x873003_1, .int .u64 x873004_1, .slice Ao21 x873005_1.length co21]) ?_ 3 _ rfl; (with_reducible repeat (first | refine blk_drewN ?_ _ | refine blk_drew ?_ | refine blk_alloc ?_ _)); refine blk_put (cs := #[.int .i64 6, .int .u64 0, .int .u64 x873002_1, .int .u64 x873003_1, .int .u64 x873004_1, .slice Ao21 x873005_1.length co21]) ?_ 2 _ rfl; (with_reducible repeat (first | refine blk_drewN ?_ _ | refine blk_drew ?_ | refine blk_alloc ?_ _)); refine blk_put (cs := #[.int .i64 6, .int .u64 x873001_1, .int .u64 x873002_1, .int .u64 x873003_1, .int .u64 x873004_1, .slice Ao21 x873005_1.length co21]) ?_ 1 _ rfl; (with_reducible repeat (first | refine blk_drewN ?_ _ | refine blk_drew ?_ | refine blk_alloc ?_ _)); refine blk_put (cs := #[.int .i64 x873000_1, .int .u64 x873001_1, .int .u64 x873002_1, .int .u64 x873003_1, .int .u64 x873004_1, .slice Ao21 x873005_1.length co21]) ?_ 0 _ rfl; (with_reducible repeat (first | refine blk_drewN ?_ _ | refine blk_drew ?_ | refine blk_alloc ?_ _)); exact BK872.out⟩, ⟨by repeat (first | (with_reducible first | exact HB.out | apply below_alloc | apply pw_below_drewN | apply below_drew1 | refine below_set ?_ GE872.out) | exact HB.out)⟩⟩
             ·rw [if_neg c19] at H
              exact absurd H (by simp)
            ·rw [if_neg c18] at H
             have c18b0 : ((Int.tmod (rd l1 x9_1) 3) == 2) = false := beq_eq_false_iff_ne.mpr c18
             have c18b1 : ((Int.tmod (rd l1 x9_1) 3) != 2) = true := bne_iff_ne.mpr c18
             by_cases c26 : x8_1.size + 1 ≤ 9223372036854775807
             ·rw [if_pos c26] at H
              have c26b0 := eq_true c26
              have c26b1 : decide (x8_1.size + 1 ≤ 9223372036854775807) = true := decide_eq_true c26
              try have c26b2 : (9223372036854775807 < x8_1.size + 1) = False := eq_false (Nat.not_lt.2 c26)
              try (have c26b3 := c26b2; simp only [ByteArray.size_append', ba_size_mk, List.size_toArray, List.length_cons, List.length_nil, Nat.zero_add, Nat.reduceAdd, ByteArray.size_extract, Nat.min_self, Nat.sub_zero] at c26b3)
              obtain ⟨y879, hy879⟩ : ∃ y_ : List (S29), y_ = (([(⟨x873000_1, (⟨x873001_1, x873002_1, x873003_1, x873004_1⟩ : S26), x873005_1⟩ : S29)] : List (S29))) := ⟨_, rfl⟩
              replace H : (scribelaw09_RegexSigns.l0 kj11 l1 (x8_1 ++ (⟨#[43]⟩ : ByteArray)) (wrap64 (x9_1 + 1)) 5 0 0 0 0 y879) = some r := by first | (rw [hy879]; with_reducible exact H) | (have H2_ := (Option.bind_some _ _).symm.trans H; rw [hy879]; with_reducible exact H2_) | (have H2_ := (Option.bind_some _ _).symm.trans H; with_reducible exact H2_) | with_reducible exact H | (rw [hy879]; exact H) | exact H
              have Ny879 := Aside0.mk hy879
              clear hy879
              have H' := Aside0.mk H
              clear H
              have p874 : 0 ≤ (x9_1 : Int) := of_decide_eq_true (by first | (with_reducible assumption) | assumption)
              have q874 : x9_1 < (l1.length : Int) := of_decide_eq_true (by first | (with_reducible assumption) | assumption)
              obtain ⟨ad874, e874, hx874_0⟩ := Kd.at_int HR1.out x9_1 p874 q874
              cases e874
              replace hx874_0 := (HB.out.cell (World.block_lt_of_cell? w _ hx874_0)).trans hx874_0
              replace p874 := eq_true p874
              replace q874 := eq_true q874
              have p875 : 0 ≤ (x9_1 : Int) := of_decide_eq_true (by first | (with_reducible assumption) | assumption)
              have q875 : x9_1 < (l1.length : Int) := of_decide_eq_true (by first | (with_reducible assumption) | assumption)
              obtain ⟨ad875, e875, hx875_0⟩ := Kd.at_int HR1.out x9_1 p875 q875
              obtain rfl : ad874 = ad875 := (by injection e875)
              replace hx875_0 := (HB.out.cell (World.block_lt_of_cell? w _ hx875_0)).trans hx875_0
              replace p875 := eq_true p875
              replace q875 := eq_true q875
              have hcz27_0 : wc.cell? ⟨gb872, 0, none⟩ = some (.int .i64 x873000_1) := (blk_cell BK872.out 0).trans rfl
              have hcz27_1 : wc.cell? ⟨gb872, 1, none⟩ = some (.int .u64 x873001_1) := (blk_cell BK872.out 1).trans rfl
              have hcz27_2 : wc.cell? ⟨gb872, 2, none⟩ = some (.int .u64 x873002_1) := (blk_cell BK872.out 2).trans rfl
              have hcz27_3 : wc.cell? ⟨gb872, 3, none⟩ = some (.int .u64 x873003_1) := (blk_cell BK872.out 3).trans rfl
              have hcz27_4 : wc.cell? ⟨gb872, 4, none⟩ = some (.int .u64 x873004_1) := (blk_cell BK872.out 4).trans rfl
              have hcz27_5 : wc.cell? ⟨gb872, 5, none⟩ = some (u873005) := (blk_cell BK872.out 5).trans rfl
              have hfz27_0 := blk_frozen BK872.out 0
              have hfz27_1 := blk_frozen BK872.out 1
              have hfz27_2 := blk_frozen BK872.out 2
              have hfz27_3 := blk_frozen BK872.out 3
              have hfz27_4 := blk_frozen BK872.out 4
              have hfz27_5 := blk_frozen BK872.out 5
              obtain ⟨Ao28, co28, eo28⟩ := Kd.R_slice HO_873005.out
              subst eo28
              go_wp2_with (first | ((with_reducible refine gate_dst (N := 56) rfl ?_); refine Kd.R_lit k29 w.heap.size 29 ?hg (N := 56) ?hd (xs := ([(⟨x873000_1, (⟨x873001_1, x873002_1, x873003_1, x873004_1⟩ : S26), x873005_1⟩ : S29)] : List (S29))) (inner := [.int .i64 x873000_1, .int .u64 x873001_1, .int .u64 x873002_1, .int .u64 x873003_1, .int .u64 x873004_1, .slice Ao28 x873005_1.length co28]) (ok := (fun k_ => k_ ≠ gb872)) (okp := (fun k_ => k_ ≠ gb872)) ?hr ?hp (fun _ hk => hk) (Kd.freshB (g := gb872) (o := .cells #[.int .i64 x873000_1, .int .u64 x873001_1, .int .u64 x873002_1, .int .u64 x873003_1, .int .u64 x873004_1, .slice Ao28 x873005_1.length co28] 29 (0, 0)) (by (with_reducible repeat (first | refine blk_drewN ?_ _ | refine blk_drew ?_ | refine blk_alloc ?_ _)); exact BK872.out) _ (Nat.le_refl _)) (Below.refl _ _) ((below_size (by repeat (first | (with_reducible first | exact HB.out | apply below_alloc | apply pw_below_drewN | apply below_drew1 | refine below_set ?_ GE872.out) | exact HB.out)))) (by simp) ?_; (case hd => rfl); (case hg => rfl); (case hr => first | (go_simp; done) | (go_simp; rfl)); (case hp => exact (Reps.c6 (show Kd.M k29 _ _ _ (⟨x873000_1, (⟨x873001_1, x873002_1, x873003_1, x873004_1⟩ : S26), x873005_1⟩ : S29) [.int .i64 x873000_1, .int .u64 x873001_1, .int .u64 x873002_1, .int .u64 x873003_1, .int .u64 x873004_1, .slice Ao28 x873005_1.length co28] from (k29_mkM _ _ _ (⟨x873000_1, (⟨x873001_1, x873002_1, x873003_1, x873004_1⟩ : S26), x873005_1⟩ : S29) (Kd.R_mono (HO_873005.out) (fun k_ hk => hk)))) (Reps.none _ _))); intro v880 w29 ho30 hb0_ hg_ hnew0_; have hb := lr_below hg_; have hnew_ := lr_base hnew0_; clear hb0_ hg_ hnew0_; (first | rw [← Ny879.out] at ho30 | (simp only [Int.reduceToNat] at ho30; rw [← Ny879.out] at ho30)); have n0_ := Aside0.mk (ho30); have n1_ := Aside0.mk (blk_below (g := gb872) (o := .cells #[.int .i64 x873000_1, .int .u64 x873001_1, .int .u64 x873002_1, .int .u64 x873003_1, .int .u64 x873004_1, .slice Ao28 x873005_1.length co28] 29 (0, 0)) (by (with_reducible repeat (first | refine blk_drewN ?_ _ | refine blk_drew ?_ | refine blk_alloc ?_ _)); exact BK872.out) hb); have n2_ := Aside0.mk (below_step (by repeat (first | (with_reducible first | exact HB.out | apply below_alloc | apply pw_below_drewN | apply below_drew1 | refine below_set ?_ GE872.out) | exact HB.out)) hb); clear BK872; clear HB; clear HO_873005; have HO881 := n0_; have BK872 := n1_; have HB := n2_; clear n0_ n1_ n2_; clear hb ho30 hnew_; obtain ⟨Ao31, co31, eo31⟩ := Kd.R_slice HO881.out; subst eo31; have hcz32_0 : w29.cell? ⟨gb872, 0, none⟩ = some (.int .i64 x873000_1) := (blk_cell BK872.out 0).trans rfl; have hcz32_1 : w29.cell? ⟨gb872, 1, none⟩ = some (.int .u64 x873001_1) := (blk_cell BK872.out 1).trans rfl; have hcz32_2 : w29.cell? ⟨gb872, 2, none⟩ = some (.int .u64 x873002_1) := (blk_cell BK872.out 2).trans rfl; have hcz32_3 : w29.cell? ⟨gb872, 3, none⟩ = some (.int .u64 x873003_1) := (blk_cell BK872.out 3).trans rfl; have hcz32_4 : w29.cell? ⟨gb872, 4, none⟩ = some (.int .u64 x873004_1) := (blk_cell BK872.out 4).trans rfl; have hcz32_5 : w29.cell? ⟨gb872, 5, none⟩ = some (.slice Ao28 x873005_1.length co28) := (blk_cell BK872.out 5).trans rfl; have hfz32_0 := blk_frozen BK872.out 0; have hfz32_1 := blk_frozen BK872.out 1; have hfz32_2 := blk_frozen BK872.out 2; have hfz32_3 := blk_frozen BK872.out 3; have hfz32_4 := blk_frozen BK872.out 4; have hfz32_5 := blk_frozen BK872.out 5))
              go_roundg kj11
              case measure => have := HK1.out; have := HJ11.out; omega
              case rel => exact ⟨(x8_1 ++ (⟨#[43]⟩ : ByteArray)), (wrap64 (x9_1 + 1)), (5), (0), (0), (0), (0), (y879), (.slice Ao31 y879.length co31), (by first | rfl | (simp; done) | (simp [*]; done) | (simp; unfold wrap64; omega)), (by first | rfl | (simp; done) | (simp [*]; done) | (simp; unfold wrap64; omega)), H', ⟨by have := HK1.out; have := HJ11.out; omega⟩, ⟨by (with_reducible repeat (first | apply Kd.R_alloc | apply Kd.R_drewN | apply Kd.R_drew)); exact Kd.R_mono (Kd.R_far (p := ⟨gb872, 5, none⟩) (Kd.R_far (p := ⟨gb872, 4, none⟩) (Kd.R_far (p := ⟨gb872, 3, none⟩) (Kd.R_far (p := ⟨gb872, 2, none⟩) (Kd.R_far (p := ⟨gb872, 1, none⟩) (Kd.R_far (p := ⟨gb872, 0, none⟩) (Kd.R_mono HO881.out (fun k_ hk => (⟨hk, hk⟩ : _ ∧ k_ ≠ gb872))) (fun _ hk => hk.2) (.int .i64 5)) (fun _ hk => hk.2) (.int .u64 0)) (fun _ hk => hk.2) (.int .u64 0)) (fun _ hk => hk.2) (.int .u64 0)) (fun _ hk => hk.2) (.int .u64 0)) (fun _ hk => hk.2) (.slice Ao31 y879.length co31)) (fun _ hk => hk.1)⟩, ⟨by (with_reducible repeat (first | refine blk_drewN ?_ _ | refine blk_drew ?_ | refine blk_alloc ?_ _)); refine blk_put (cs := #[.int .i64 5, .int .u64 0, .int .u64 0, .int .u64 0, .int .u64 0, .slice Ao28 x873005_1.length co28]) ?_ 5 _ rfl; (with_reducible repeat (first | refine blk_drewN ?_ _ | refine blk_drew ?_ | refine blk_alloc ?_ _)); refine blk_put (cs := #[.int .i64 5, .int .u64 0, .int .u64 0, .int .u64 0, .int .u64 x873004_1, .slice Ao28 x873005_1.length co28]) ?_ 4 _ rfl; (with_reducible repeat (first | refine blk_drewN ?_ _ | refine blk_drew ?_ | refine blk_alloc ?_ _)); refine blk_put (cs := #[.int .i64 5, .int .u64 0, .int .u64 0, .int .u64 x873003_1, .int .u64 x873004_1, .slice Ao28 x873005_1.length co28]) ?_ 3 _ rfl; (with_reducible repeat (first | refine blk_drewN ?_ _ | refine blk_drew ?_ | refine blk_alloc ?_ _)); refine blk_put (cs := #[.int .i64 5, .int .u64 0, .int .u64 x873002_1, .int .u64 x873003_1, .int .u64 x873004_1, .slice Ao28 x873005_1.length co28]) ?_ 2 _ rfl; (with_reducible repeat (first | refine blk_drewN ?_ _ | refine blk_drew ?_ | refine blk_alloc ?_ _)); refine blk_put (cs := #[.int .i64 5, .int .u64 x873001_1, .int .u64 x873002_1, .int .u64 x873003_1, .int .u64 x873004_1, .slice Ao28 x873005_1.length co28]) ?_ 1 _ rfl; (with_reducible repeat (first | refine blk_drewN ?_ _ | refine blk_drew ?_ | refine blk_alloc ?_ _)); refine blk_put (cs := #[.int .i64 x873000_1, .int .u64 x873001_1, .int .u64 x873002_1, .int .u64 x873003_1, .int .u64 x873004_1, .slice Ao28 x873005_1.length co28]) ?_ 0 _ rfl; (with_reducible repeat (first | refine blk_drewN ?_ _ | refine blk_drew ?_ | refine blk_alloc ?_ _)); exact BK872.out⟩, ⟨by repeat (first | (with_reducible first | exact HB.out | apply below_alloc | apply pw_below_drewN | apply below_drew1 | refine below_set ?_ GE872.out) | exact HB.out)⟩⟩
             ·rw [if_neg c26] at H
              exact absurd H (by simp)
           ·rw [if_neg c17] at H
            have c17b0 : ((Int.tmod (rd l1 x9_1) 3) == 1) = false := beq_eq_false_iff_ne.mpr c17
            have c17b1 : ((Int.tmod (rd l1 x9_1) 3) != 1) = true := bne_iff_ne.mpr c17
            by_cases c33 : (Int.tmod (rd l1 x9_1) 3) = 2
            ·rw [if_pos c33] at H
             have c33b0 : ((Int.tmod (rd l1 x9_1) 3) == 2) = true := beq_iff_eq.mpr c33
             have c33b1 : ((Int.tmod (rd l1 x9_1) 3) != 2) = false := bne_eq_false_iff_eq.mpr c33
             clear c33
             by_cases c34 : x8_1.size + 1 ≤ 9223372036854775807
             ·rw [if_pos c34] at H
              have c34b0 := eq_true c34
              have c34b1 : decide (x8_1.size + 1 ≤ 9223372036854775807) = true := decide_eq_true c34
              try have c34b2 : (9223372036854775807 < x8_1.size + 1) = False := eq_false (Nat.not_lt.2 c34)
              try (have c34b3 := c34b2; simp only [ByteArray.size_append', ba_size_mk, List.size_toArray, List.length_cons, List.length_nil, Nat.zero_add, Nat.reduceAdd, ByteArray.size_extract, Nat.min_self, Nat.sub_zero] at c34b3)
              obtain ⟨y883, hy883⟩ : ∃ y_ : List (S29), y_ = (([(⟨x873000_1, (⟨x873001_1, x873002_1, x873003_1, x873004_1⟩ : S26), x873005_1⟩ : S29)] : List (S29))) := ⟨_, rfl⟩
              replace H : (scribelaw09_RegexSigns.l0 kj11 l1 (x8_1 ++ (⟨#[63]⟩ : ByteArray)) (wrap64 (x9_1 + 1)) 6 0 0 0 0 y883) = some r := by first | (rw [hy883]; with_reducible exact H) | (have H2_ := (Option.bind_some _ _).symm.trans H; rw [hy883]; with_reducible exact H2_) | (have H2_ := (Option.bind_some _ _).symm.trans H; with_reducible exact H2_) | with_reducible exact H | (rw [hy883]; exact H) | exact H
              have Ny883 := Aside0.mk hy883
              clear hy883
              have H' := Aside0.mk H
              clear H
              have p874 : 0 ≤ (x9_1 : Int) := of_decide_eq_true (by first | (with_reducible assumption) | assumption)
              have q874 : x9_1 < (l1.length : Int) := of_decide_eq_true (by first | (with_reducible assumption) | assumption)
              obtain ⟨ad874, e874, hx874_0⟩ := Kd.at_int HR1.out x9_1 p874 q874
              cases e874
              replace hx874_0 := (HB.out.cell (World.block_lt_of_cell? w _ hx874_0)).trans hx874_0
              replace p874 := eq_true p874
              replace q874 := eq_true q874
              have p882 : 0 ≤ (x9_1 : Int) := of_decide_eq_true (by first | (with_reducible assumption) | assumption)
              have q882 : x9_1 < (l1.length : Int) := of_decide_eq_true (by first | (with_reducible assumption) | assumption)
              obtain ⟨ad882, e882, hx882_0⟩ := Kd.at_int HR1.out x9_1 p882 q882
              obtain rfl : ad874 = ad882 := (by injection e882)
              replace hx882_0 := (HB.out.cell (World.block_lt_of_cell? w _ hx882_0)).trans hx882_0
              replace p882 := eq_true p882
              replace q882 := eq_true q882
              have hcz35_0 : wc.cell? ⟨gb872, 0, none⟩ = some (.int .i64 x873000_1) := (blk_cell BK872.out 0).trans rfl
              have hcz35_1 : wc.cell? ⟨gb872, 1, none⟩ = some (.int .u64 x873001_1) := (blk_cell BK872.out 1).trans rfl
              have hcz35_2 : wc.cell? ⟨gb872, 2, none⟩ = some (.int .u64 x873002_1) := (blk_cell BK872.out 2).trans rfl
              have hcz35_3 : wc.cell? ⟨gb872, 3, none⟩ = some (.int .u64 x873003_1) := (blk_cell BK872.out 3).trans rfl
              have hcz35_4 : wc.cell? ⟨gb872, 4, none⟩ = some (.int .u64 x873004_1) := (blk_cell BK872.out 4).trans rfl
              have hcz35_5 : wc.cell? ⟨gb872, 5, none⟩ = some (u873005) := (blk_cell BK872.out 5).trans rfl
              have hfz35_0 := blk_frozen BK872.out 0
              have hfz35_1 := blk_frozen BK872.out 1
              have hfz35_2 := blk_frozen BK872.out 2
              have hfz35_3 := blk_frozen BK872.out 3
              have hfz35_4 := blk_frozen BK872.out 4
              have hfz35_5 := blk_frozen BK872.out 5
              obtain ⟨Ao36, co36, eo36⟩ := Kd.R_slice HO_873005.out
              subst eo36
              go_wp2_with (first | ((with_reducible refine gate_dst (N := 56) rfl ?_); refine Kd.R_lit k29 w.heap.size 29 ?hg (N := 56) ?hd (xs := ([(⟨x873000_1, (⟨x873001_1, x873002_1, x873003_1, x873004_1⟩ : S26), x873005_1⟩ : S29)] : List (S29))) (inner := [.int .i64 x873000_1, .int .u64 x873001_1, .int .u64 x873002_1, .int .u64 x873003_1, .int .u64 x873004_1, .slice Ao36 x873005_1.length co36]) (ok := (fun k_ => k_ ≠ gb872)) (okp := (fun k_ => k_ ≠ gb872)) ?hr ?hp (fun _ hk => hk) (Kd.freshB (g := gb872) (o := .cells #[.int .i64 x873000_1, .int .u64 x873001_1, .int .u64 x873002_1, .int .u64 x873003_1, .int .u64 x873004_1, .slice Ao36 x873005_1.length co36] 29 (0, 0)) (by (with_reducible repeat (first | refine blk_drewN ?_ _ | refine blk_drew ?_ | refine blk_alloc ?_ _)); exact BK872.out) _ (Nat.le_refl _)) (Below.refl _ _) ((below_size (by repeat (first | (with_reducible first | exact HB.out | apply below_alloc | apply pw_below_drewN | apply below_drew1 | refine below_set ?_ GE872.out) | exact HB.out)))) (by simp) ?_; (case hd => rfl); (case hg => rfl); (case hr => first | (go_simp; done) | (go_simp; rfl)); (case hp => exact (Reps.c6 (show Kd.M k29 _ _ _ (⟨x873000_1, (⟨x873001_1, x873002_1, x873003_1, x873004_1⟩ : S26), x873005_1⟩ : S29) [.int .i64 x873000_1, .int .u64 x873001_1, .int .u64 x873002_1, .int .u64 x873003_1, .int .u64 x873004_1, .slice Ao36 x873005_1.length co36] from (k29_mkM _ _ _ (⟨x873000_1, (⟨x873001_1, x873002_1, x873003_1, x873004_1⟩ : S26), x873005_1⟩ : S29) (Kd.R_mono (HO_873005.out) (fun k_ hk => hk)))) (Reps.none _ _))); intro v884 w37 ho38 hb0_ hg_ hnew0_; have hb := lr_below hg_; have hnew_ := lr_base hnew0_; clear hb0_ hg_ hnew0_; (first | rw [← Ny883.out] at ho38 | (simp only [Int.reduceToNat] at ho38; rw [← Ny883.out] at ho38)); have n0_ := Aside0.mk (ho38); have n1_ := Aside0.mk (blk_below (g := gb872) (o := .cells #[.int .i64 x873000_1, .int .u64 x873001_1, .int .u64 x873002_1, .int .u64 x873003_1, .int .u64 x873004_1, .slice Ao36 x873005_1.length co36] 29 (0, 0)) (by (with_reducible repeat (first | refine blk_drewN ?_ _ | refine blk_drew ?_ | refine blk_alloc ?_ _)); exact BK872.out) hb); have n2_ := Aside0.mk (below_step (by repeat (first | (with_reducible first | exact HB.out | apply below_alloc | apply pw_below_drewN | apply below_drew1 | refine below_set ?_ GE872.out) | exact HB.out)) hb); clear BK872; clear HB; clear HO_873005; have HO885 := n0_; have BK872 := n1_; have HB := n2_; clear n0_ n1_ n2_; clear hb ho38 hnew_; obtain ⟨Ao39, co39, eo39⟩ := Kd.R_slice HO885.out; subst eo39; have hcz40_0 : w37.cell? ⟨gb872, 0, none⟩ = some (.int .i64 x873000_1) := (blk_cell BK872.out 0).trans rfl; have hcz40_1 : w37.cell? ⟨gb872, 1, none⟩ = some (.int .u64 x873001_1) := (blk_cell BK872.out 1).trans rfl; have hcz40_2 : w37.cell? ⟨gb872, 2, none⟩ = some (.int .u64 x873002_1) := (blk_cell BK872.out 2).trans rfl; have hcz40_3 : w37.cell? ⟨gb872, 3, none⟩ = some (.int .u64 x873003_1) := (blk_cell BK872.out 3).trans rfl; have hcz40_4 : w37.cell? ⟨gb872, 4, none⟩ = some (.int .u64 x873004_1) := (blk_cell BK872.out 4).trans rfl; have hcz40_5 : w37.cell? ⟨gb872, 5, none⟩ = some (.slice Ao36 x873005_1.length co36) := (blk_cell BK872.out 5).trans rfl; have hfz40_0 := blk_frozen BK872.out 0; have hfz40_1 := blk_frozen BK872.out 1; have hfz40_2 := blk_frozen BK872.out 2; have hfz40_3 := blk_frozen BK872.out 3; have hfz40_4 := blk_frozen BK872.out 4; have hfz40_5 := blk_frozen BK872.out 5))
              go_roundg kj11
              case measure => have := HK1.out; have := HJ11.out; omega
              case rel => exact ⟨(x8_1 ++ (⟨#[63]⟩ : ByteArray)), (wrap64 (x9_1 + 1)), (6), (0), (0), (0), (0), (y883), (.slice Ao39 y883.length co39), (by first | rfl | (simp; done) | (simp [*]; done) | (simp; unfold wrap64; omega)), (by first | rfl | (simp; done) | (simp [*]; done) | (simp; unfold wrap64; omega)), H', ⟨by have := HK1.out; have := HJ11.out; omega⟩, ⟨by (with_reducible repeat (first | apply Kd.R_alloc | apply Kd.R_drewN | apply Kd.R_drew)); exact Kd.R_mono (Kd.R_far (p := ⟨gb872, 5, none⟩) (Kd.R_far (p := ⟨gb872, 4, none⟩) (Kd.R_far (p := ⟨gb872, 3, none⟩) (Kd.R_far (p := ⟨gb872, 2, none⟩) (Kd.R_far (p := ⟨gb872, 1, none⟩) (Kd.R_far (p := ⟨gb872, 0, none⟩) (Kd.R_mono HO885.out (fun k_ hk => (⟨hk, hk⟩ : _ ∧ k_ ≠ gb872))) (fun _ hk => hk.2) (.int .i64 6)) (fun _ hk => hk.2) (.int .u64 0)) (fun _ hk => hk.2) (.int .u64 0)) (fun _ hk => hk.2) (.int .u64 0)) (fun _ hk => hk.2) (.int .u64 0)) (fun _ hk => hk.2) (.slice Ao39 y883.length co39)) (fun _ hk => hk.1)⟩, ⟨by (with_reducible repeat (first | refine blk_drewN ?_ _ | refine blk_drew ?_ | refine blk_alloc ?_ _)); refine blk_put (cs := #[.int .i64 6, .int .u64 0, .int .u64 0, .int .u64 0, .int .u64 0, .slice Ao36 x873005_1.length co36]) ?_ 5 _ rfl; (with_reducible repeat (first | refine blk_drewN ?_ _ | refine blk_drew ?_ | refine blk_alloc ?_ _)); refine blk_put (cs := #[.int .i64 6, .int .u64 0, .int .u64 0, .int .u64 0, .int .u64 x873004_1, .slice Ao36 x873005_1.length co36]) ?_ 4 _ rfl; (with_reducible repeat (first | refine blk_drewN ?_ _ | refine blk_drew ?_ | refine blk_alloc ?_ _)); refine blk_put (cs := #[.int .i64 6, .int .u64 0, .int .u64 0, .int .u64 x873003_1, .int .u64 x873004_1, .slice Ao36 x873005_1.length co36]) ?_ 3 _ rfl; (with_reducible repeat (first | refine blk_drewN ?_ _ | refine blk_drew ?_ | refine blk_alloc ?_ _)); refine blk_put (cs := #[.int .i64 6, .int .u64 0, .int .u64 x873002_1, .int .u64 x873003_1, .int .u64 x873004_1, .slice Ao36 x873005_1.length co36]) ?_ 2 _ rfl; (with_reducible repeat (first | refine blk_drewN ?_ _ | refine blk_drew ?_ | refine blk_alloc ?_ _)); refine blk_put (cs := #[.int .i64 6, .int .u64 x873001_1, .int .u64 x873002_1, .int .u64 x873003_1, .int .u64 x873004_1, .slice Ao36 x873005_1.length co36]) ?_ 1 _ rfl; (with_reducible repeat (first | refine blk_drewN ?_ _ | refine blk_drew ?_ | refine blk_alloc ?_ _)); refine blk_put (cs := #[.int .i64 x873000_1, .int .u64 x873001_1, .int .u64 x873002_1, .int .u64 x873003_1, .int .u64 x873004_1, .slice Ao36 x873005_1.length co36]) ?_ 0 _ rfl; (with_reducible repeat (first | refine blk_drewN ?_ _ | refine blk_drew ?_ | refine blk_alloc ?_ _)); exact BK872.out⟩, ⟨by repeat (first | (with_reducible first | exact HB.out | apply below_alloc | apply pw_below_drewN | apply below_drew1 | refine below_set ?_ GE872.out) | exact HB.out)⟩⟩
             ·rw [if_neg c34] at H
              exact absurd H (by simp)
            ·rw [if_neg c33] at H
             have c33b0 : ((Int.tmod (rd l1 x9_1) 3) == 2) = false := beq_eq_false_iff_ne.mpr c33
             have c33b1 : ((Int.tmod (rd l1 x9_1) 3) != 2) = true := bne_iff_ne.mpr c33
             by_cases c41 : x8_1.size + 1 ≤ 9223372036854775807
             ·rw [if_pos c41] at H
              have c41b0 := eq_true c41
              have c41b1 : decide (x8_1.size + 1 ≤ 9223372036854775807) = true := decide_eq_true c41
              try have c41b2 : (9223372036854775807 < x8_1.size + 1) = False := eq_false (Nat.not_lt.2 c41)
              try (have c41b3 := c41b2; simp only [ByteArray.size_append', ba_size_mk, List.size_toArray, List.length_cons, List.length_nil, Nat.zero_add, Nat.reduceAdd, ByteArray.size_extract, Nat.min_self, Nat.sub_zero] at c41b3)
              obtain ⟨y886, hy886⟩ : ∃ y_ : List (S29), y_ = (([(⟨x873000_1, (⟨x873001_1, x873002_1, x873003_1, x873004_1⟩ : S26), x873005_1⟩ : S29)] : List (S29))) := ⟨_, rfl⟩
              replace H : (scribelaw09_RegexSigns.l0 kj11 l1 (x8_1 ++ (⟨#[42]⟩ : ByteArray)) (wrap64 (x9_1 + 1)) 4 0 0 0 0 y886) = some r := by first | (rw [hy886]; with_reducible exact H) | (have H2_ := (Option.bind_some _ _).symm.trans H; rw [hy886]; with_reducible exact H2_) | (have H2_ := (Option.bind_some _ _).symm.trans H; with_reducible exact H2_) | with_reducible exact H | (rw [hy886]; exact H) | exact H
              have Ny886 := Aside0.mk hy886
              clear hy886
              have H' := Aside0.mk H
              clear H
              have p874 : 0 ≤ (x9_1 : Int) := of_decide_eq_true (by first | (with_reducible assumption) | assumption)
              have q874 : x9_1 < (l1.length : Int) := of_decide_eq_true (by first | (with_reducible assumption) | assumption)
              obtain ⟨ad874, e874, hx874_0⟩ := Kd.at_int HR1.out x9_1 p874 q874
              cases e874
              replace hx874_0 := (HB.out.cell (World.block_lt_of_cell? w _ hx874_0)).trans hx874_0
              replace p874 := eq_true p874
              replace q874 := eq_true q874
              have p882 : 0 ≤ (x9_1 : Int) := of_decide_eq_true (by first | (with_reducible assumption) | assumption)
              have q882 : x9_1 < (l1.length : Int) := of_decide_eq_true (by first | (with_reducible assumption) | assumption)
              obtain ⟨ad882, e882, hx882_0⟩ := Kd.at_int HR1.out x9_1 p882 q882
              obtain rfl : ad874 = ad882 := (by injection e882)
              replace hx882_0 := (HB.out.cell (World.block_lt_of_cell? w _ hx882_0)).trans hx882_0
              replace p882 := eq_true p882
              replace q882 := eq_true q882
              have hcz42_0 : wc.cell? ⟨gb872, 0, none⟩ = some (.int .i64 x873000_1) := (blk_cell BK872.out 0).trans rfl
              have hcz42_1 : wc.cell? ⟨gb872, 1, none⟩ = some (.int .u64 x873001_1) := (blk_cell BK872.out 1).trans rfl
              have hcz42_2 : wc.cell? ⟨gb872, 2, none⟩ = some (.int .u64 x873002_1) := (blk_cell BK872.out 2).trans rfl
              have hcz42_3 : wc.cell? ⟨gb872, 3, none⟩ = some (.int .u64 x873003_1) := (blk_cell BK872.out 3).trans rfl
              have hcz42_4 : wc.cell? ⟨gb872, 4, none⟩ = some (.int .u64 x873004_1) := (blk_cell BK872.out 4).trans rfl
              have hcz42_5 : wc.cell? ⟨gb872, 5, none⟩ = some (u873005) := (blk_cell BK872.out 5).trans rfl
              have hfz42_0 := blk_frozen BK872.out 0
              have hfz42_1 := blk_frozen BK872.out 1
              have hfz42_2 := blk_frozen BK872.out 2
              have hfz42_3 := blk_frozen BK872.out 3
              have hfz42_4 := blk_frozen BK872.out 4
              have hfz42_5 := blk_frozen BK872.out 5
              obtain ⟨Ao43, co43, eo43⟩ := Kd.R_slice HO_873005.out
              subst eo43
              go_wp2_with (first | ((with_reducible refine gate_dst (N := 56) rfl ?_); refine Kd.R_lit k29 w.heap.size 29 ?hg (N := 56) ?hd (xs := ([(⟨x873000_1, (⟨x873001_1, x873002_1, x873003_1, x873004_1⟩ : S26), x873005_1⟩ : S29)] : List (S29))) (inner := [.int .i64 x873000_1, .int .u64 x873001_1, .int .u64 x873002_1, .int .u64 x873003_1, .int .u64 x873004_1, .slice Ao43 x873005_1.length co43]) (ok := (fun k_ => k_ ≠ gb872)) (okp := (fun k_ => k_ ≠ gb872)) ?hr ?hp (fun _ hk => hk) (Kd.freshB (g := gb872) (o := .cells #[.int .i64 x873000_1, .int .u64 x873001_1, .int .u64 x873002_1, .int .u64 x873003_1, .int .u64 x873004_1, .slice Ao43 x873005_1.length co43] 29 (0, 0)) (by (with_reducible repeat (first | refine blk_drewN ?_ _ | refine blk_drew ?_ | refine blk_alloc ?_ _)); exact BK872.out) _ (Nat.le_refl _)) (Below.refl _ _) ((below_size (by repeat (first | (with_reducible first | exact HB.out | apply below_alloc | apply pw_below_drewN | apply below_drew1 | refine below_set ?_ GE872.out) | exact HB.out)))) (by simp) ?_; (case hd => rfl); (case hg => rfl); (case hr => first | (go_simp; done) | (go_simp; rfl)); (case hp => exact (Reps.c6 (show Kd.M k29 _ _ _ (⟨x873000_1, (⟨x873001_1, x873002_1, x873003_1, x873004_1⟩ : S26), x873005_1⟩ : S29) [.int .i64 x873000_1, .int .u64 x873001_1, .int .u64 x873002_1, .int .u64 x873003_1, .int .u64 x873004_1, .slice Ao43 x873005_1.length co43] from (k29_mkM _ _ _ (⟨x873000_1, (⟨x873001_1, x873002_1, x873003_1, x873004_1⟩ : S26), x873005_1⟩ : S29) (Kd.R_mono (HO_873005.out) (fun k_ hk => hk)))) (Reps.none _ _))); intro v887 w44 ho45 hb0_ hg_ hnew0_; have hb := lr_below hg_; have hnew_ := lr_base hnew0_; clear hb0_ hg_ hnew0_; (first | rw [← Ny886.out] at ho45 | (simp only [Int.reduceToNat] at ho45; rw [← Ny886.out] at ho45)); have n0_ := Aside0.mk (ho45); have n1_ := Aside0.mk (blk_below (g := gb872) (o := .cells #[.int .i64 x873000_1, .int .u64 x873001_1, .int .u64 x873002_1, .int .u64 x873003_1, .int .u64 x873004_1, .slice Ao43 x873005_1.length co43] 29 (0, 0)) (by (with_reducible repeat (first | refine blk_drewN ?_ _ | refine blk_drew ?_ | refine blk_alloc ?_ _)); exact BK872.out) hb); have n2_ := Aside0.mk (below_step (by repeat (first | (with_reducible first | exact HB.out | apply below_alloc | apply pw_below_drewN | apply below_drew1 | refine below_set ?_ GE872.out) | exact HB.out)) hb); clear BK872; clear HB; clear HO_873005; have HO888 := n0_; have BK872 := n1_; have HB := n2_; clear n0_ n1_ n2_; clear hb ho45 hnew_; obtain ⟨Ao46, co46, eo46⟩ := Kd.R_slice HO888.out; subst eo46; have hcz47_0 : w44.cell? ⟨gb872, 0, none⟩ = some (.int .i64 x873000_1) := (blk_cell BK872.out 0).trans rfl; have hcz47_1 : w44.cell? ⟨gb872, 1, none⟩ = some (.int .u64 x873001_1) := (blk_cell BK872.out 1).trans rfl; have hcz47_2 : w44.cell? ⟨gb872, 2, none⟩ = some (.int .u64 x873002_1) := (blk_cell BK872.out 2).trans rfl; have hcz47_3 : w44.cell? ⟨gb872, 3, none⟩ = some (.int .u64 x873003_1) := (blk_cell BK872.out 3).trans rfl; have hcz47_4 : w44.cell? ⟨gb872, 4, none⟩ = some (.int .u64 x873004_1) := (blk_cell BK872.out 4).trans rfl; have hcz47_5 : w44.cell? ⟨gb872, 5, none⟩ = some (.slice Ao43 x873005_1.length co43) := (blk_cell BK872.out 5).trans rfl; have hfz47_0 := blk_frozen BK872.out 0; have hfz47_1 := blk_frozen BK872.out 1; have hfz47_2 := blk_frozen BK872.out 2; have hfz47_3 := blk_frozen BK872.out 3; have hfz47_4 := blk_frozen BK872.out 4; have hfz47_5 := blk_frozen BK872.out 5))
              go_roundg kj11
              case measure => have := HK1.out; have := HJ11.out; omega
              case rel => exact ⟨(x8_1 ++ (⟨#[42]⟩ : ByteArray)), (wrap64 (x9_1 + 1)), (4), (0), (0), (0), (0), (y886), (.slice Ao46 y886.length co46), (by first | rfl | (simp; done) | (simp [*]; done) | (simp; unfold wrap64; omega)), (by first | rfl | (simp; done) | (simp [*]; done) | (simp; unfold wrap64; omega)), H', ⟨by have := HK1.out; have := HJ11.out; omega⟩, ⟨by (with_reducible repeat (first | apply Kd.R_alloc | apply Kd.R_drewN | apply Kd.R_drew)); exact Kd.R_mono (Kd.R_far (p := ⟨gb872, 5, none⟩) (Kd.R_far (p := ⟨gb872, 4, none⟩) (Kd.R_far (p := ⟨gb872, 3, none⟩) (Kd.R_far (p := ⟨gb872, 2, none⟩) (Kd.R_far (p := ⟨gb872, 1, none⟩) (Kd.R_far (p := ⟨gb872, 0, none⟩) (Kd.R_mono HO888.out (fun k_ hk => (⟨hk, hk⟩ : _ ∧ k_ ≠ gb872))) (fun _ hk => hk.2) (.int .i64 4)) (fun _ hk => hk.2) (.int .u64 0)) (fun _ hk => hk.2) (.int .u64 0)) (fun _ hk => hk.2) (.int .u64 0)) (fun _ hk => hk.2) (.int .u64 0)) (fun _ hk => hk.2) (.slice Ao46 y886.length co46)) (fun _ hk => hk.1)⟩, ⟨by (with_reducible repeat (first | refine blk_drewN ?_ _ | refine blk_drew ?_ | refine blk_alloc ?_ _)); refine blk_put (cs := #[.int .i64 4, .int .u64 0, .int .u64 0, .int .u64 0, .int .u64 0, .slice Ao43 x873005_1.length co43]) ?_ 5 _ rfl; (with_reducible repeat (first | refine blk_drewN ?_ _ | refine blk_drew ?_ | refine blk_alloc ?_ _)); refine blk_put (cs := #[.int .i64 4, .int .u64 0, .int .u64 0, .int .u64 0, .int .u64 x873004_1, .slice Ao43 x873005_1.length co43]) ?_ 4 _ rfl; (with_reducible repeat (first | refine blk_drewN ?_ _ | refine blk_drew ?_ | refine blk_alloc ?_ _)); refine blk_put (cs := #[.int .i64 4, .int .u64 0, .int .u64 0, .int .u64 x873003_1, .int .u64 x873004_1, .slice Ao43 x873005_1.length co43]) ?_ 3 _ rfl; (with_reducible repeat (first | refine blk_drewN ?_ _ | refine blk_drew ?_ | refine blk_alloc ?_ _)); refine blk_put (cs := #[.int .i64 4, .int .u64 0, .int .u64 x873002_1, .int .u64 x873003_1, .int .u64 x873004_1, .slice Ao43 x873005_1.length co43]) ?_ 2 _ rfl; (with_reducible repeat (first | refine blk_drewN ?_ _ | refine blk_drew ?_ | refine blk_alloc ?_ _)); refine blk_put (cs := #[.int .i64 4, .int .u64 x873001_1, .int .u64 x873002_1, .int .u64 x873003_1, .int .u64 x873004_1, .slice Ao43 x873005_1.length co43]) ?_ 1 _ rfl; (with_reducible repeat (first | refine blk_drewN ?_ _ | refine blk_drew ?_ | refine blk_alloc ?_ _)); refine blk_put (cs := #[.int .i64 x873000_1, .int .u64 x873001_1, .int .u64 x873002_1, .int .u64 x873003_1, .int .u64 x873004_1, .slice Ao43 x873005_1.length co43]) ?_ 0 _ rfl; (with_reducible repeat (first | refine blk_drewN ?_ _ | refine blk_drew ?_ | refine blk_alloc ?_ _)); exact BK872.out⟩, ⟨by repeat (first | (with_reducible first | exact HB.out | apply below_alloc | apply pw_below_drewN | apply below_drew1 | refine below_set ?_ GE872.out) | exact HB.out)⟩⟩
             ·rw [if_neg c41] at H
              exact absurd H (by simp)
          ·rw [if_neg c16] at H
           exact absurd H (by simp)
         ·rw [if_neg c15] at H
          exact absurd H (by simp)
        ·replace c14 := Bool.eq_false_iff.mpr c14
         subst c14
         have H1 : ((regex_Parse.f kj11 x8_1).bind fun bt889 => ((scribelaw09_awake.f kj11).bind fun t900 => (if t900 = true then (if bt889.2.2.2.2.2.2.2 = 14 then (some true) else (if bt889.2.2.2.2.2.2.2 = 0 then ((regex_Print.f kj11 bt889.1 bt889.2.1 bt889.2.2.1 bt889.2.2.2.1 bt889.2.2.2.2.1 bt889.2.2.2.2.2.1).bind fun t901 => ((regex_Print.f kj11 x873000_1 x873001_1 x873002_1 x873003_1 x873004_1 x873005_1).bind fun t902 => (some (t901.toList == t902.toList)))) else (some false))) else (some false)))) = some r := by rw [if_neg (show ¬ (false = true) by decide)] at H; exact H
         clear H
         have H := H1
         clear H1
         replace H := Option.bind_eq_some_iff.mp H
         obtain ⟨⟨t889, t890, t891, t892, t893, t894, t897, t898⟩, A480, H⟩ := H
         replace H : ((scribelaw09_awake.f kj11).bind fun t900 => (if t900 = true then (if t898 = 14 then (some true) else (if t898 = 0 then ((regex_Print.f kj11 t889 t890 t891 t892 t893 t894).bind fun t901 => ((regex_Print.f kj11 x873000_1 x873001_1 x873002_1 x873003_1 x873004_1 x873005_1).bind fun t902 => (some (t901.toList == t902.toList)))) else (some false))) else (some false))) = some r := H
         have A48 := Aside0.mk A480
         clear A480
         replace H := Option.bind_eq_some_iff.mp H
         obtain ⟨t900, A490, H⟩ := H
         replace H : (if t900 = true then (if t898 = 14 then (some true) else (if t898 = 0 then ((regex_Print.f kj11 t889 t890 t891 t892 t893 t894).bind fun t901 => ((regex_Print.f kj11 x873000_1 x873001_1 x873002_1 x873003_1 x873004_1 x873005_1).bind fun t902 => (some (t901.toList == t902.toList)))) else (some false))) else (some false)) = some r := H
         have A49 := Aside0.mk A490
         clear A490
         by_cases c50 : t900 = true
         ·subst c50
          have H1 : (if t898 = 14 then (some true) else (if t898 = 0 then ((regex_Print.f kj11 t889 t890 t891 t892 t893 t894).bind fun t901 => ((regex_Print.f kj11 x873000_1 x873001_1 x873002_1 x873003_1 x873004_1 x873005_1).bind fun t902 => (some (t901.toList == t902.toList)))) else (some false))) = some r := by rw [if_pos rfl] at H; exact H
          clear H
          have H := H1
          clear H1
          by_cases c51 : t898 = 14
          ·rw [if_pos c51] at H
           have c51b0 : (t898 == 14) = true := beq_iff_eq.mpr c51
           have c51b1 : (t898 != 14) = false := bne_eq_false_iff_eq.mpr c51
           clear c51
           obtain rfl := Option.some.inj H
           try go_wp2_with (first | ((with_reducible refine gate_callee (f := 10) rfl ?_); refine goesL_ (some 60) rfl rfl Try.func10 (by kernel_rfl) rfl #[.string x8_1] rfl (by (try simp only [List.map_toArray, List.map_cons, List.map_nil]); first | done | rfl | (simp only [List.length_drop, List.length_take]; rfl)) ?_; (with_reducible refine (regex_Parse.calls kj11 x8_1 t889 t890 t891 t892 t893 t894 t897 t898 _ ?side1 A48.out).mono ?_); (case side1 => exact TB.below hT (by repeat (first | (with_reducible first | exact HB.out | apply below_alloc | apply pw_below_drewN | apply below_drew1 | refine below_set ?_ GE872.out) | exact HB.out))); rintro e w52 ⟨v895, rfl, ho0, hb⟩; refine ⟨_, rfl, ?_⟩; have n0_ := Aside0.mk (Kd.R_elder' (by (with_reducible repeat (first | apply Kd.R_alloc | apply Kd.R_drewN | apply Kd.R_drew)); exact HO_873005.out) (Kd.R_base ho0) hb); have n1_ := Aside0.mk (Kd.R_lower (Kd.R_newB (Kd.R_new' ho0 (Kd.R_lt (by (with_reducible repeat (first | apply Kd.R_alloc | apply Kd.R_drewN | apply Kd.R_drew)); exact HO_873005.out))) (g := gb872) (o := .cells #[.int .i64 x873000_1, .int .u64 x873001_1, .int .u64 x873002_1, .int .u64 x873003_1, .int .u64 x873004_1, u873005] 29 (0, 0)) (by (with_reducible repeat (first | refine blk_drewN ?_ _ | refine blk_drew ?_ | refine blk_alloc ?_ _)); exact BK872.out)) (below_size (by repeat (first | (with_reducible first | exact HB.out | apply below_alloc | apply pw_below_drewN | apply below_drew1 | refine below_set ?_ GE872.out) | exact HB.out)))); have n2_ := Aside0.mk (blk_below (g := gb872) (o := .cells #[.int .i64 x873000_1, .int .u64 x873001_1, .int .u64 x873002_1, .int .u64 x873003_1, .int .u64 x873004_1, u873005] 29 (0, 0)) (by (with_reducible repeat (first | refine blk_drewN ?_ _ | refine blk_drew ?_ | refine blk_alloc ?_ _)); exact BK872.out) hb); have n3_ := Aside0.mk (below_step (by repeat (first | (with_reducible first | exact HB.out | apply below_alloc | apply pw_below_drewN | apply below_drew1 | refine below_set ?_ GE872.out) | exact HB.out)) hb); clear HO_873005; clear BK872; clear HB; have HO_873005 := n0_; have HO896 := n1_; have BK872 := n2_; have HB := n3_; clear n0_ n1_ n2_ n3_; (try clear hb); (try clear hb2); (try clear hk); (try clear hi); (try clear ho0)) | ((with_reducible refine gate_dst (N := 12) rfl ?_); refine box_event ?hg (N := 12) ?hd (cs := #[.int .i64 0, .int .u64 0, .int .u64 0, .int .u64 0, .int .u64 0, .slice none 0 0]) (t := 29) ?hr ?_; (case hd => rfl); (case hg => rfl); (case hr => first | (go_simp; done) | (go_simp; rfl)); intro gb899 hg w53 hbox hb; have n0_ := Aside0.mk (Kd.R_below (Kd.R_elderB (by (with_reducible repeat (first | apply Kd.R_alloc | apply Kd.R_drewN | apply Kd.R_drew)); exact HO_873005.out) gb899 (Nat.le_of_eq hg.symm)) hb); have n1_ := Aside0.mk (Kd.R_below (Kd.R_elderB (by (with_reducible repeat (first | apply Kd.R_alloc | apply Kd.R_drewN | apply Kd.R_drew)); exact HO896.out) gb899 (Nat.le_of_eq hg.symm)) hb); have n2_ := Aside0.mk (blk_below (g := gb872) (o := .cells #[.int .i64 x873000_1, .int .u64 x873001_1, .int .u64 x873002_1, .int .u64 x873003_1, .int .u64 x873004_1, u873005] 29 (0, 0)) (by (with_reducible repeat (first | refine blk_drewN ?_ _ | refine blk_drew ?_ | refine blk_alloc ?_ _)); exact BK872.out) hb); have n3_ := Aside0.mk (below_step (by repeat (first | (with_reducible first | exact HB.out | apply below_alloc | apply pw_below_drewN | apply below_drew1 | refine below_set ?_ GE872.out) | exact HB.out)) hb); have n4_ := Aside0.mk (hbox); have n5_ := Aside0.mk ((by rw [hg]; exact (below_size (by repeat (first | (with_reducible first | exact HB.out | apply below_alloc | apply pw_below_drewN | apply below_drew1 | refine below_set ?_ GE872.out) | exact HB.out))) : w.heap.size ≤ gb899)); have n6_ := Aside0.mk ((by rw [hg]; exact (below_size (by repeat (first | (with_reducible first | exact HB.out | apply below_alloc | apply pw_below_drewN | apply below_drew1 | refine below_set ?_ GE872.out) | exact HB.out))) : w.heap.size ≤ gb899)); have n7_ := Aside0.mk ((by rw [hg]; exact Nat.ne_of_lt (blk_lt (g := gb872) (o := .cells #[.int .i64 x873000_1, .int .u64 x873001_1, .int .u64 x873002_1, .int .u64 x873003_1, .int .u64 x873004_1, u873005] 29 (0, 0)) (by (with_reducible repeat (first | refine blk_drewN ?_ _ | refine blk_drew ?_ | refine blk_alloc ?_ _)); exact BK872.out)) : gb872 ≠ gb899)); have n8_ := Aside0.mk ((by rw [hg]; exact Nat.ne_of_gt (blk_lt (g := gb872) (o := .cells #[.int .i64 x873000_1, .int .u64 x873001_1, .int .u64 x873002_1, .int .u64 x873003_1, .int .u64 x873004_1, u873005] 29 (0, 0)) (by (with_reducible repeat (first | refine blk_drewN ?_ _ | refine blk_drew ?_ | refine blk_alloc ?_ _)); exact BK872.out)) : gb899 ≠ gb872)); clear HO_873005; clear HO896; clear BK872; clear HB; have HO_873005 := n0_; have HO896 := n1_; have BK872 := n2_; have HB := n3_; have BK899 := n4_; have GW899 := n5_; have GE899 := n6_; have NB872_899 := n7_; have NB899_872 := n8_; clear n0_ n1_ n2_ n3_ n4_ n5_ n6_ n7_ n8_; clear hb hbox hg; have hnb54 := NB899_872.out; have hnc54 := NB872_899.out; have hcz55_0 : w53.cell? ⟨gb899, 0, none⟩ = some (.int .i64 0) := (blk_cell BK899.out 0).trans rfl; have hcz55_1 : w53.cell? ⟨gb899, 1, none⟩ = some (.int .u64 0) := (blk_cell BK899.out 1).trans rfl; have hcz55_2 : w53.cell? ⟨gb899, 2, none⟩ = some (.int .u64 0) := (blk_cell BK899.out 2).trans rfl; have hcz55_3 : w53.cell? ⟨gb899, 3, none⟩ = some (.int .u64 0) := (blk_cell BK899.out 3).trans rfl; have hcz55_4 : w53.cell? ⟨gb899, 4, none⟩ = some (.int .u64 0) := (blk_cell BK899.out 4).trans rfl; have hcz55_5 : w53.cell? ⟨gb899, 5, none⟩ = some (.slice none 0 0) := (blk_cell BK899.out 5).trans rfl; have hfz55_0 := blk_frozen BK899.out 0; have hfz55_1 := blk_frozen BK899.out 1; have hfz55_2 := blk_frozen BK899.out 2; have hfz55_3 := blk_frozen BK899.out 3; have hfz55_4 := blk_frozen BK899.out 4; have hfz55_5 := blk_frozen BK899.out 5; obtain ⟨Ao56, co56, eo56⟩ := Kd.R_slice HO896.out; subst eo56))
           have n0_ : Aside0 (Kd.R k29 29 ((((((w53.setCell ⟨gb899, 0, none⟩ (.int .i64 t889)).setCell ⟨gb899, 1, none⟩ (.int .u64 t890)).setCell ⟨gb899, 2, none⟩ (.int .u64 t891)).setCell ⟨gb899, 3, none⟩ (.int .u64 t892)).setCell ⟨gb899, 4, none⟩ (.int .u64 t893)).setCell ⟨gb899, 5, none⟩ (.slice Ao56 t894.length co56)) w.heap.size (fun k_ => some k_ ≠ (.slice Ao56 t894.length co56 : Value).ownBlock ∧ k_ ≠ gb872 ∧ k_ ≠ gb899) u873005 x873005_1) := ⟨by (with_reducible repeat (first | apply Kd.R_alloc | apply Kd.R_drewN | apply Kd.R_drew)); exact Kd.R_mono (Kd.R_far (p := ⟨gb899, 5, none⟩) (Kd.R_far (p := ⟨gb899, 4, none⟩) (Kd.R_far (p := ⟨gb899, 3, none⟩) (Kd.R_far (p := ⟨gb899, 2, none⟩) (Kd.R_far (p := ⟨gb899, 1, none⟩) (Kd.R_far (p := ⟨gb899, 0, none⟩) (Kd.R_mono HO_873005.out (fun k_ hk => (⟨hk, hk.2⟩ : _ ∧ k_ ≠ gb899))) (fun _ hk => hk.2) (.int .i64 t889)) (fun _ hk => hk.2) (.int .u64 t890)) (fun _ hk => hk.2) (.int .u64 t891)) (fun _ hk => hk.2) (.int .u64 t892)) (fun _ hk => hk.2) (.int .u64 t893)) (fun _ hk => hk.2) (.slice Ao56 t894.length co56)) (fun _ hk => ⟨hk.1.1.2, ⟨hk.1.1.1, hk.1.2⟩⟩)⟩
           have n1_ : Aside0 (Kd.R k29 29 ((((((w53.setCell ⟨gb899, 0, none⟩ (.int .i64 t889)).setCell ⟨gb899, 1, none⟩ (.int .u64 t890)).setCell ⟨gb899, 2, none⟩ (.int .u64 t891)).setCell ⟨gb899, 3, none⟩ (.int .u64 t892)).setCell ⟨gb899, 4, none⟩ (.int .u64 t893)).setCell ⟨gb899, 5, none⟩ (.slice Ao56 t894.length co56)) w.heap.size (fun k_ => some k_ ≠ (u873005 : Value).ownBlock ∧ k_ ≠ gb872 ∧ k_ ≠ gb899) (.slice Ao56 t894.length co56) t894) := ⟨by (with_reducible repeat (first | apply Kd.R_alloc | apply Kd.R_drewN | apply Kd.R_drew)); exact Kd.R_mono (Kd.R_far (p := ⟨gb899, 5, none⟩) (Kd.R_far (p := ⟨gb899, 4, none⟩) (Kd.R_far (p := ⟨gb899, 3, none⟩) (Kd.R_far (p := ⟨gb899, 2, none⟩) (Kd.R_far (p := ⟨gb899, 1, none⟩) (Kd.R_far (p := ⟨gb899, 0, none⟩) (Kd.R_mono HO896.out (fun k_ hk => (⟨hk, hk.2⟩ : _ ∧ k_ ≠ gb899))) (fun _ hk => hk.2) (.int .i64 t889)) (fun _ hk => hk.2) (.int .u64 t890)) (fun _ hk => hk.2) (.int .u64 t891)) (fun _ hk => hk.2) (.int .u64 t892)) (fun _ hk => hk.2) (.int .u64 t893)) (fun _ hk => hk.2) (.slice Ao56 t894.length co56)) (fun _ hk => ⟨hk.1.1.1.2, ⟨hk.1.1.2, hk.1.2⟩⟩)⟩
           have n2_ : Aside0 (((((((w53.setCell ⟨gb899, 0, none⟩ (.int .i64 t889)).setCell ⟨gb899, 1, none⟩ (.int .u64 t890)).setCell ⟨gb899, 2, none⟩ (.int .u64 t891)).setCell ⟨gb899, 3, none⟩ (.int .u64 t892)).setCell ⟨gb899, 4, none⟩ (.int .u64 t893)).setCell ⟨gb899, 5, none⟩ (.slice Ao56 t894.length co56)).heap[gb872]? = some (.cells #[.int .i64 x873000_1, .int .u64 x873001_1, .int .u64 x873002_1, .int .u64 x873003_1, .int .u64 x873004_1, u873005] 29 (0, 0))) := ⟨by (with_reducible repeat (first | refine blk_drewN ?_ _ | refine blk_drew ?_ | refine blk_alloc ?_ _)); refine blk_far ?_ NB872_899.out _; (with_reducible repeat (first | refine blk_drewN ?_ _ | refine blk_drew ?_ | refine blk_alloc ?_ _)); refine blk_far ?_ NB872_899.out _; (with_reducible repeat (first | refine blk_drewN ?_ _ | refine blk_drew ?_ | refine blk_alloc ?_ _)); refine blk_far ?_ NB872_899.out _; (with_reducible repeat (first | refine blk_drewN ?_ _ | refine blk_drew ?_ | refine blk_alloc ?_ _)); refine blk_far ?_ NB872_899.out _; (with_reducible repeat (first | refine blk_drewN ?_ _ | refine blk_drew ?_ | refine blk_alloc ?_ _)); refine blk_far ?_ NB872_899.out _; (with_reducible repeat (first | refine blk_drewN ?_ _ | refine blk_drew ?_ | refine blk_alloc ?_ _)); refine blk_far ?_ NB872_899.out _; (with_reducible repeat (first | refine blk_drewN ?_ _ | refine blk_drew ?_ | refine blk_alloc ?_ _)); exact BK872.out⟩
           have n3_ : Aside0 (((((((w53.setCell ⟨gb899, 0, none⟩ (.int .i64 t889)).setCell ⟨gb899, 1, none⟩ (.int .u64 t890)).setCell ⟨gb899, 2, none⟩ (.int .u64 t891)).setCell ⟨gb899, 3, none⟩ (.int .u64 t892)).setCell ⟨gb899, 4, none⟩ (.int .u64 t893)).setCell ⟨gb899, 5, none⟩ (.slice Ao56 t894.length co56)).heap[gb899]? = some (.cells #[.int .i64 t889, .int .u64 t890, .int .u64 t891, .int .u64 t892, .int .u64 t893, .slice Ao56 t894.length co56] 29 (0, 0))) := ⟨by (with_reducible repeat (first | refine blk_drewN ?_ _ | refine blk_drew ?_ | refine blk_alloc ?_ _)); refine blk_put (cs := #[.int .i64 t889, .int .u64 t890, .int .u64 t891, .int .u64 t892, .int .u64 t893, .slice none 0 0]) ?_ 5 _ rfl; (with_reducible repeat (first | refine blk_drewN ?_ _ | refine blk_drew ?_ | refine blk_alloc ?_ _)); refine blk_put (cs := #[.int .i64 t889, .int .u64 t890, .int .u64 t891, .int .u64 t892, .int .u64 0, .slice none 0 0]) ?_ 4 _ rfl; (with_reducible repeat (first | refine blk_drewN ?_ _ | refine blk_drew ?_ | refine blk_alloc ?_ _)); refine blk_put (cs := #[.int .i64 t889, .int .u64 t890, .int .u64 t891, .int .u64 0, .int .u64 0, .slice none 0 0]) ?_ 3 _ rfl; (with_reducible repeat (first | refine blk_drewN ?_ _ | refine blk_drew ?_ | refine blk_alloc ?_ _)); refine blk_put (cs := #[.int .i64 t889, .int .u64 t890, .int .u64 0, .int .u64 0, .int .u64 0, .slice none 0 0]) ?_ 2 _ rfl; (with_reducible repeat (first | refine blk_drewN ?_ _ | refine blk_drew ?_ | refine blk_alloc ?_ _)); refine blk_put (cs := #[.int .i64 t889, .int .u64 0, .int .u64 0, .int .u64 0, .int .u64 0, .slice none 0 0]) ?_ 1 _ rfl; (with_reducible repeat (first | refine blk_drewN ?_ _ | refine blk_drew ?_ | refine blk_alloc ?_ _)); refine blk_put (cs := #[.int .i64 0, .int .u64 0, .int .u64 0, .int .u64 0, .int .u64 0, .slice none 0 0]) ?_ 0 _ rfl; (with_reducible repeat (first | refine blk_drewN ?_ _ | refine blk_drew ?_ | refine blk_alloc ?_ _)); exact BK899.out⟩
           have n4_ : Aside0 (Below w.heap.size w ((((((w53.setCell ⟨gb899, 0, none⟩ (.int .i64 t889)).setCell ⟨gb899, 1, none⟩ (.int .u64 t890)).setCell ⟨gb899, 2, none⟩ (.int .u64 t891)).setCell ⟨gb899, 3, none⟩ (.int .u64 t892)).setCell ⟨gb899, 4, none⟩ (.int .u64 t893)).setCell ⟨gb899, 5, none⟩ (.slice Ao56 t894.length co56))) := ⟨by repeat (first | (with_reducible first | exact HB.out | apply below_alloc | apply pw_below_drewN | apply below_drew1 | refine below_set ?_ GE872.out | refine below_set ?_ GE899.out) | exact HB.out)⟩
           (try clear HO_873005)
           (try clear HO896)
           (try clear BK872)
           (try clear BK899)
           (try clear HB)
           generalize ((((((w53.setCell ⟨gb899, 0, none⟩ (.int .i64 t889)).setCell ⟨gb899, 1, none⟩ (.int .u64 t890)).setCell ⟨gb899, 2, none⟩ (.int .u64 t891)).setCell ⟨gb899, 3, none⟩ (.int .u64 t892)).setCell ⟨gb899, 4, none⟩ (.int .u64 t893)).setCell ⟨gb899, 5, none⟩ (.slice Ao56 t894.length co56)) = w57 at n0_ n1_ n2_ n3_ n4_ ⊢
           have HO_873005 := n0_
           have HO896 := n1_
           have BK872 := n2_
           have BK899 := n3_
           have HB := n4_
           clear n0_ n1_ n2_ n3_ n4_
           have n0_ := Aside0.mk (Kd.R_drew HO_873005.out)
           have n1_ := Aside0.mk (Kd.R_drew HO896.out)
           have n2_ := Aside0.mk (blk_drew BK872.out)
           have n3_ := Aside0.mk (blk_drew BK899.out)
           have n4_ := Aside0.mk (below_drew1 HB.out)
           clear HO_873005
           clear HO896
           clear BK872
           clear BK899
           clear HB
           have HO_873005 := n0_
           have HO896 := n1_
           have BK872 := n2_
           have BK899 := n3_
           have HB := n4_
           clear n0_ n1_ n2_ n3_ n4_
           refine start_ (n := 17) (S := fun w' => True) (ds := []) #[ff,ff,ff,ff,ff,ff,ff,ff,ff,ff,ff,ff,ff,ff,ff,ff,ff] (by kernel_rfl) rfl rfl trivial (fun hHeld => ?_); refine with_tabW scribelaw09_RegexSigns.tab20 scribelaw09_RegexSigns.bits20 (fun HT_ HW_ => ?_)
           generalize w57.drew = w58 at HO_873005 HO896 BK872 BK899 HB hHeld ⊢
           refine one_ (i := 0) (N := some 64) #[tt,ff,ff,ff,ff,ff,ff,ff,ff,ff,ff,ff,ff,ff,ff,ff,ff] rfl rfl (one_of HT_.out (by kernel_rfl)) (by decide) (fun K hK => ?_)
           refine goes_ Try.func11 (by kernel_rfl) rfl #[] (by rfl) rfl rfl (by (try simp only [List.map_toArray, List.map_cons, List.map_nil]); first | done | rfl | (simp only [List.length_drop, List.length_take]; rfl)) ?_
           with_reducible refine (scribelaw09_awake.calls kj11  true _ ?side1 A49.out).mono ?_
           (case side1 => exact TB.below hT (by repeat (first | (with_reducible first | exact HB.out | apply below_alloc | apply pw_below_drewN | apply below_drew1 | refine below_set ?_ GE872.out | refine below_set ?_ GE899.out) | exact HB.out)))
           rintro e w59 ⟨rfl, hb⟩
           refine ⟨_, rfl, ?_⟩
           have n0_ := Aside0.mk (Kd.R_below (by (with_reducible repeat (first | apply Kd.R_alloc | apply Kd.R_drewN | apply Kd.R_drew)); exact HO_873005.out) hb)
           have n1_ := Aside0.mk (Kd.R_below (by (with_reducible repeat (first | apply Kd.R_alloc | apply Kd.R_drewN | apply Kd.R_drew)); exact HO896.out) hb)
           have n2_ := Aside0.mk (blk_below (g := gb872) (o := .cells #[.int .i64 x873000_1, .int .u64 x873001_1, .int .u64 x873002_1, .int .u64 x873003_1, .int .u64 x873004_1, u873005] 29 (0, 0)) (by (with_reducible repeat (first | refine blk_drewN ?_ _ | refine blk_drew ?_ | refine blk_alloc ?_ _)); exact BK872.out) hb)
           have n3_ := Aside0.mk (blk_below (g := gb899) (o := .cells #[.int .i64 t889, .int .u64 t890, .int .u64 t891, .int .u64 t892, .int .u64 t893, .slice Ao56 t894.length co56] 29 (0, 0)) (by (with_reducible repeat (first | refine blk_drewN ?_ _ | refine blk_drew ?_ | refine blk_alloc ?_ _)); exact BK899.out) hb)
           have n4_ := Aside0.mk (below_step (by repeat (first | (with_reducible first | exact HB.out | apply below_alloc | apply pw_below_drewN | apply below_drew1 | refine below_set ?_ GE872.out | refine below_set ?_ GE899.out) | exact HB.out)) hb)
           clear HO_873005
           clear HO896
           clear BK872
           clear BK899
           clear HB
           have HO_873005 := n0_
           have HO896 := n1_
           have BK872 := n2_
           have BK899 := n3_
           have HB := n4_
           clear n0_ n1_ n2_ n3_ n4_
           (try clear hb)
           (try clear hb2)
           (try clear hk)
           (try clear hi)
           refine hK.out _ _ trivial (fun hHeld => ?_)
           clear hK K
           refine norm_ (a' := ?_) ?_ ?_
           rotate_left
           ·show Act.put _ (some 64) _ = _
            simp only [Act.put, setA, setZ, setS, i64_w, i32_w]
            rfl
           refine pure_ (i := 1) (N := some 65) (v := ?_) (a' := ?_) #[tt,tt,ff,ff,ff,ff,ff,ff,ff,ff,ff,ff,ff,ff,ff,ff,ff] rfl rfl (any_of HT_.out (by kernel_rfl)) (fun _ _ _ h => h) (Or.inl ⟨by rfl, ?_⟩) ?_ ?_
           rotate_left
           ·intro w'
            go_simp
            with_reducible rfl
           rotate_left
           ·simp only [Act.put, setA, setZ, setS, i64_w, i32_w]
            rfl
           refine pure_ (i := 2) (N := some 66) (v := ?_) (a' := ?_) #[tt,tt,tt,ff,ff,ff,ff,ff,ff,ff,ff,ff,ff,ff,ff,ff,ff] rfl rfl (any_of HT_.out (by kernel_rfl)) (fun _ _ _ h => h) (Or.inl ⟨by rfl, ?_⟩) ?_ ?_
           rotate_left
           ·intro w'
            go_simp
            with_reducible rfl
           rotate_left
           ·simp only [Act.put, setA, setZ, setS, i64_w, i32_w]
            rfl
           refine pure_ (i := 3) (N := some 67) (v := ?_) (a' := ?_) #[tt,tt,tt,tt,ff,ff,ff,ff,ff,ff,ff,ff,ff,ff,ff,ff,ff] rfl rfl (any_of HT_.out (by kernel_rfl)) (fun _ _ _ h => h) (Or.inl ⟨by rfl, ?_⟩) ?_ ?_
           rotate_left
           ·intro w'
            go_simp
            with_reducible rfl
           rotate_left
           ·simp only [Act.put, setA, setZ, setS, i64_w, i32_w]
            rfl
           refine pure_ (i := 4) (N := some 68) (v := ?_) (a' := ?_) #[tt,tt,tt,tt,tt,ff,ff,ff,ff,ff,ff,ff,ff,ff,ff,ff,ff] rfl rfl (any_of HT_.out (by kernel_rfl)) (fun _ _ _ h => h) (Or.inl ⟨by rfl, ?_⟩) ?_ ?_
           rotate_left
           ·intro w'
            go_simp
            with_reducible rfl
           rotate_left
           ·simp only [Act.put, setA, setZ, setS, i64_w, i32_w]
            rfl
           refine pure_ (i := 5) (N := some 69) (v := undef) (a' := ?_) #[tt,tt,tt,tt,tt,tt,ff,ff,ff,ff,ff,ff,ff,ff,ff,ff,ff] rfl rfl (any_of HT_.out (by kernel_rfl)) (fun _ _ _ h => h) (Or.inr ⟨by rfl, rfl⟩) ?_ ?_
           rotate_left
           ·simp only [Act.put, setA, setZ, setS, i64_w, i32_w]
            rfl
           refine pure_ (i := 6) (N := some 70) (v := undef) (a' := ?_) #[tt,tt,tt,tt,tt,tt,tt,ff,ff,ff,ff,ff,ff,ff,ff,ff,ff] rfl rfl (any_of HT_.out (by kernel_rfl)) (fun _ _ _ h => h) (Or.inr ⟨by rfl, rfl⟩) ?_ ?_
           rotate_left
           ·simp only [Act.put, setA, setZ, setS, i64_w, i32_w]
            rfl
           refine pure_ (i := 7) (N := some 71) (v := undef) (a' := ?_) #[tt,tt,tt,tt,tt,tt,tt,tt,ff,ff,ff,ff,ff,ff,ff,ff,ff] rfl rfl (any_of HT_.out (by kernel_rfl)) (fun _ _ _ h => h) (Or.inr ⟨by rfl, rfl⟩) ?_ ?_
           rotate_left
           ·simp only [Act.put, setA, setZ, setS, i64_w, i32_w]
            rfl
           refine pure_ (i := 8) (N := some 72) (v := undef) (a' := ?_) #[tt,tt,tt,tt,tt,tt,tt,tt,tt,ff,ff,ff,ff,ff,ff,ff,ff] rfl rfl (any_of HT_.out (by kernel_rfl)) (fun _ _ _ h => h) (Or.inr ⟨by rfl, rfl⟩) ?_ ?_
           rotate_left
           ·simp only [Act.put, setA, setZ, setS, i64_w, i32_w]
            rfl
           refine pure_ (i := 9) (N := some 73) (v := undef) (a' := ?_) #[tt,tt,tt,tt,tt,tt,tt,tt,tt,tt,ff,ff,ff,ff,ff,ff,ff] rfl rfl (any_of HT_.out (by kernel_rfl)) (fun _ _ _ h => h) (Or.inr ⟨by rfl, rfl⟩) ?_ ?_
           rotate_left
           ·simp only [Act.put, setA, setZ, setS, i64_w, i32_w]
            rfl
           refine pure_ (i := 10) (N := some 74) (v := undef) (a' := ?_) #[tt,tt,tt,tt,tt,tt,tt,tt,tt,tt,tt,ff,ff,ff,ff,ff,ff] rfl rfl (any_of HT_.out (by kernel_rfl)) (fun _ _ _ h => h) (Or.inr ⟨by rfl, rfl⟩) ?_ ?_
           rotate_left
           ·simp only [Act.put, setA, setZ, setS, i64_w, i32_w]
            rfl
           refine pure_ (i := 11) (N := some 75) (v := undef) (a' := ?_) #[tt,tt,tt,tt,tt,tt,tt,tt,tt,tt,tt,tt,ff,ff,ff,ff,ff] rfl rfl (any_of HT_.out (by kernel_rfl)) (fun _ _ _ h => h) (Or.inr ⟨by rfl, rfl⟩) ?_ ?_
           rotate_left
           ·simp only [Act.put, setA, setZ, setS, i64_w, i32_w]
            rfl
           refine pure_ (i := 12) (N := some 76) (v := undef) (a' := ?_) #[tt,tt,tt,tt,tt,tt,tt,tt,tt,tt,tt,tt,tt,ff,ff,ff,ff] rfl rfl (any_of HT_.out (by kernel_rfl)) (fun _ _ _ h => h) (Or.inr ⟨by rfl, rfl⟩) ?_ ?_
           rotate_left
           ·simp only [Act.put, setA, setZ, setS, i64_w, i32_w]
            rfl
           refine pure_ (i := 13) (N := some 77) (v := undef) (a' := ?_) #[tt,tt,tt,tt,tt,tt,tt,tt,tt,tt,tt,tt,tt,tt,ff,ff,ff] rfl rfl (any_of HT_.out (by kernel_rfl)) (fun _ _ _ h => h) (Or.inr ⟨by rfl, rfl⟩) ?_ ?_
           rotate_left
           ·simp only [Act.put, setA, setZ, setS, i64_w, i32_w]
            rfl
           refine pure_ (i := 14) (N := some 78) (v := ?_) (a' := ?_) #[tt,tt,tt,tt,tt,tt,tt,tt,tt,tt,tt,tt,tt,tt,tt,ff,ff] rfl rfl (any_of HT_.out (by kernel_rfl)) (fun _ _ _ h => h) (Or.inl ⟨by rfl, ?_⟩) ?_ ?_
           rotate_left
           ·intro w'
            go_simp
            with_reducible rfl
           rotate_left
           ·simp only [Act.put, setA, setZ, setS, i64_w, i32_w]
            rfl
           refine pure_ (i := 15) (N := some 79) (v := ?_) (a' := ?_) #[tt,tt,tt,tt,tt,tt,tt,tt,tt,tt,tt,tt,tt,tt,tt,tt,ff] rfl rfl (any_of HT_.out (by kernel_rfl)) (fun _ _ _ h => h) (Or.inl ⟨by rfl, ?_⟩) ?_ ?_
           rotate_left
           ·intro w'
            go_simp
            with_reducible rfl
           rotate_left
           ·simp only [Act.put, setA, setZ, setS, i64_w, i32_w]
            rfl
           refine pure_ (i := 16) (N := some 4) (v := ?_) (a' := ?_) #[tt,tt,tt,tt,tt,tt,tt,tt,tt,tt,tt,tt,tt,tt,tt,tt,tt] rfl rfl (any_of HT_.out (by kernel_rfl)) (fun _ _ _ h => h) (Or.inl ⟨by rfl, ?_⟩) ?_ ?_
           rotate_left
           ·intro w'
            go_simp
            with_reducible rfl
           rotate_left
           ·simp only [Act.put, setA, setZ, setS, i64_w, i32_w]
            rfl
           refine done_ (done_of HT_.out (by kernel_rfl)) ?_
           try go_wp2
           go_ret
           exact ⟨by first | rfl | (simp [errW_none, errW_some] <;> rfl) | (simp [errW_none, errW_some] <;> first | rfl | exact isEmpty_bne _) | (simp [*, errW_none, errW_some] <;> rfl), by repeat (first | (with_reducible first | exact HB.out | apply below_alloc | apply pw_below_drewN | apply below_drew1 | refine below_set ?_ GE872.out | refine below_set ?_ GE899.out) | exact HB.out)⟩
          ·rw [if_neg c51] at H
           have c51b0 : (t898 == 14) = false := beq_eq_false_iff_ne.mpr c51
           have c51b1 : (t898 != 14) = true := bne_iff_ne.mpr c51
           by_cases c60 : t898 = 0
           ·rw [if_pos c60] at H
            have c60b0 : (t898 == 0) = true := beq_iff_eq.mpr c60
            have c60b1 : (t898 != 0) = false := bne_eq_false_iff_eq.mpr c60
            clear c60
            replace H := Option.bind_eq_some_iff.mp H
            obtain ⟨t901, A610, H⟩ := H
            replace H : ((regex_Print.f kj11 x873000_1 x873001_1 x873002_1 x873003_1 x873004_1 x873005_1).bind fun t902 => (some (t901.toList == t902.toList))) = some r := H
            have A61 := Aside0.mk A610
            clear A610
            replace H := Option.bind_eq_some_iff.mp H
            obtain ⟨t902, A620, H⟩ := H
            replace H : (some (t901.toList == t902.toList)) = some r := H
            have A62 := Aside0.mk A620
            clear A620
            obtain rfl := Option.some.inj H
            try go_wp2_with (first | ((with_reducible refine gate_callee (f := 10) rfl ?_); refine goesL_ (some 60) rfl rfl Try.func10 (by kernel_rfl) rfl #[.string x8_1] rfl (by (try simp only [List.map_toArray, List.map_cons, List.map_nil]); first | done | rfl | (simp only [List.length_drop, List.length_take]; rfl)) ?_; (with_reducible refine (regex_Parse.calls kj11 x8_1 t889 t890 t891 t892 t893 t894 t897 t898 _ ?side1 A48.out).mono ?_); (case side1 => exact TB.below hT (by repeat (first | (with_reducible first | exact HB.out | apply below_alloc | apply pw_below_drewN | apply below_drew1 | refine below_set ?_ GE872.out) | exact HB.out))); rintro e w63 ⟨v895, rfl, ho0, hb⟩; refine ⟨_, rfl, ?_⟩; have n0_ := Aside0.mk (Kd.R_elder' (by (with_reducible repeat (first | apply Kd.R_alloc | apply Kd.R_drewN | apply Kd.R_drew)); exact HO_873005.out) (Kd.R_base ho0) hb); have n1_ := Aside0.mk (Kd.R_lower (Kd.R_newB (Kd.R_new' ho0 (Kd.R_lt (by (with_reducible repeat (first | apply Kd.R_alloc | apply Kd.R_drewN | apply Kd.R_drew)); exact HO_873005.out))) (g := gb872) (o := .cells #[.int .i64 x873000_1, .int .u64 x873001_1, .int .u64 x873002_1, .int .u64 x873003_1, .int .u64 x873004_1, u873005] 29 (0, 0)) (by (with_reducible repeat (first | refine blk_drewN ?_ _ | refine blk_drew ?_ | refine blk_alloc ?_ _)); exact BK872.out)) (below_size (by repeat (first | (with_reducible first | exact HB.out | apply below_alloc | apply pw_below_drewN | apply below_drew1 | refine below_set ?_ GE872.out) | exact HB.out)))); have n2_ := Aside0.mk (blk_below (g := gb872) (o := .cells #[.int .i64 x873000_1, .int .u64 x873001_1, .int .u64 x873002_1, .int .u64 x873003_1, .int .u64 x873004_1, u873005] 29 (0, 0)) (by (with_reducible repeat (first | refine blk_drewN ?_ _ | refine blk_drew ?_ | refine blk_alloc ?_ _)); exact BK872.out) hb); have n3_ := Aside0.mk (below_step (by repeat (first | (with_reducible first | exact HB.out | apply below_alloc | apply pw_below_drewN | apply below_drew1 | refine below_set ?_ GE872.out) | exact HB.out)) hb); clear HO_873005; clear BK872; clear HB; have HO_873005 := n0_; have HO896 := n1_; have BK872 := n2_; have HB := n3_; clear n0_ n1_ n2_ n3_; (try clear hb); (try clear hb2); (try clear hk); (try clear hi); (try clear ho0)) | ((with_reducible refine gate_dst (N := 12) rfl ?_); refine box_event ?hg (N := 12) ?hd (cs := #[.int .i64 0, .int .u64 0, .int .u64 0, .int .u64 0, .int .u64 0, .slice none 0 0]) (t := 29) ?hr ?_; (case hd => rfl); (case hg => rfl); (case hr => first | (go_simp; done) | (go_simp; rfl)); intro gb899 hg w64 hbox hb; have n0_ := Aside0.mk (Kd.R_below (Kd.R_elderB (by (with_reducible repeat (first | apply Kd.R_alloc | apply Kd.R_drewN | apply Kd.R_drew)); exact HO_873005.out) gb899 (Nat.le_of_eq hg.symm)) hb); have n1_ := Aside0.mk (Kd.R_below (Kd.R_elderB (by (with_reducible repeat (first | apply Kd.R_alloc | apply Kd.R_drewN | apply Kd.R_drew)); exact HO896.out) gb899 (Nat.le_of_eq hg.symm)) hb); have n2_ := Aside0.mk (blk_below (g := gb872) (o := .cells #[.int .i64 x873000_1, .int .u64 x873001_1, .int .u64 x873002_1, .int .u64 x873003_1, .int .u64 x873004_1, u873005] 29 (0, 0)) (by (with_reducible repeat (first | refine blk_drewN ?_ _ | refine blk_drew ?_ | refine blk_alloc ?_ _)); exact BK872.out) hb); have n3_ := Aside0.mk (below_step (by repeat (first | (with_reducible first | exact HB.out | apply below_alloc | apply pw_below_drewN | apply below_drew1 | refine below_set ?_ GE872.out) | exact HB.out)) hb); have n4_ := Aside0.mk (hbox); have n5_ := Aside0.mk ((by rw [hg]; exact (below_size (by repeat (first | (with_reducible first | exact HB.out | apply below_alloc | apply pw_below_drewN | apply below_drew1 | refine below_set ?_ GE872.out) | exact HB.out))) : w.heap.size ≤ gb899)); have n6_ := Aside0.mk ((by rw [hg]; exact (below_size (by repeat (first | (with_reducible first | exact HB.out | apply below_alloc | apply pw_below_drewN | apply below_drew1 | refine below_set ?_ GE872.out) | exact HB.out))) : w.heap.size ≤ gb899)); have n7_ := Aside0.mk ((by rw [hg]; exact Nat.ne_of_lt (blk_lt (g := gb872) (o := .cells #[.int .i64 x873000_1, .int .u64 x873001_1, .int .u64 x873002_1, .int .u64 x873003_1, .int .u64 x873004_1, u873005] 29 (0, 0)) (by (with_reducible repeat (first | refine blk_drewN ?_ _ | refine blk_drew ?_ | refine blk_alloc ?_ _)); exact BK872.out)) : gb872 ≠ gb899)); have n8_ := Aside0.mk ((by rw [hg]; exact Nat.ne_of_gt (blk_lt (g := gb872) (o := .cells #[.int .i64 x873000_1, .int .u64 x873001_1, .int .u64 x873002_1, .int .u64 x873003_1, .int .u64 x873004_1, u873005] 29 (0, 0)) (by (with_reducible repeat (first | refine blk_drewN ?_ _ | refine blk_drew ?_ | refine blk_alloc ?_ _)); exact BK872.out)) : gb899 ≠ gb872)); clear HO_873005; clear HO896; clear BK872; clear HB; have HO_873005 := n0_; have HO896 := n1_; have BK872 := n2_; have HB := n3_; have BK899 := n4_; have GW899 := n5_; have GE899 := n6_; have NB872_899 := n7_; have NB899_872 := n8_; clear n0_ n1_ n2_ n3_ n4_ n5_ n6_ n7_ n8_; clear hb hbox hg; have hnb65 := NB899_872.out; have hnc65 := NB872_899.out; have hcz66_0 : w64.cell? ⟨gb899, 0, none⟩ = some (.int .i64 0) := (blk_cell BK899.out 0).trans rfl; have hcz66_1 : w64.cell? ⟨gb899, 1, none⟩ = some (.int .u64 0) := (blk_cell BK899.out 1).trans rfl; have hcz66_2 : w64.cell? ⟨gb899, 2, none⟩ = some (.int .u64 0) := (blk_cell BK899.out 2).trans rfl; have hcz66_3 : w64.cell? ⟨gb899, 3, none⟩ = some (.int .u64 0) := (blk_cell BK899.out 3).trans rfl; have hcz66_4 : w64.cell? ⟨gb899, 4, none⟩ = some (.int .u64 0) := (blk_cell BK899.out 4).trans rfl; have hcz66_5 : w64.cell? ⟨gb899, 5, none⟩ = some (.slice none 0 0) := (blk_cell BK899.out 5).trans rfl; have hfz66_0 := blk_frozen BK899.out 0; have hfz66_1 := blk_frozen BK899.out 1; have hfz66_2 := blk_frozen BK899.out 2; have hfz66_3 := blk_frozen BK899.out 3; have hfz66_4 := blk_frozen BK899.out 4; have hfz66_5 := blk_frozen BK899.out 5; obtain ⟨Ao67, co67, eo67⟩ := Kd.R_slice HO896.out; subst eo67))
            have n0_ : Aside0 (Kd.R k29 29 ((((((w64.setCell ⟨gb899, 0, none⟩ (.int .i64 t889)).setCell ⟨gb899, 1, none⟩ (.int .u64 t890)).setCell ⟨gb899, 2, none⟩ (.int .u64 t891)).setCell ⟨gb899, 3, none⟩ (.int .u64 t892)).setCell ⟨gb899, 4, none⟩ (.int .u64 t893)).setCell ⟨gb899, 5, none⟩ (.slice Ao67 t894.length co67)) w.heap.size (fun k_ => some k_ ≠ (.slice Ao67 t894.length co67 : Value).ownBlock ∧ k_ ≠ gb872 ∧ k_ ≠ gb899) u873005 x873005_1) := ⟨by (with_reducible repeat (first | apply Kd.R_alloc | apply Kd.R_drewN | apply Kd.R_drew)); exact Kd.R_mono (Kd.R_far (p := ⟨gb899, 5, none⟩) (Kd.R_far (p := ⟨gb899, 4, none⟩) (Kd.R_far (p := ⟨gb899, 3, none⟩) (Kd.R_far (p := ⟨gb899, 2, none⟩) (Kd.R_far (p := ⟨gb899, 1, none⟩) (Kd.R_far (p := ⟨gb899, 0, none⟩) (Kd.R_mono HO_873005.out (fun k_ hk => (⟨hk, hk.2⟩ : _ ∧ k_ ≠ gb899))) (fun _ hk => hk.2) (.int .i64 t889)) (fun _ hk => hk.2) (.int .u64 t890)) (fun _ hk => hk.2) (.int .u64 t891)) (fun _ hk => hk.2) (.int .u64 t892)) (fun _ hk => hk.2) (.int .u64 t893)) (fun _ hk => hk.2) (.slice Ao67 t894.length co67)) (fun _ hk => ⟨hk.1.1.2, ⟨hk.1.1.1, hk.1.2⟩⟩)⟩
            have n1_ : Aside0 (Kd.R k29 29 ((((((w64.setCell ⟨gb899, 0, none⟩ (.int .i64 t889)).setCell ⟨gb899, 1, none⟩ (.int .u64 t890)).setCell ⟨gb899, 2, none⟩ (.int .u64 t891)).setCell ⟨gb899, 3, none⟩ (.int .u64 t892)).setCell ⟨gb899, 4, none⟩ (.int .u64 t893)).setCell ⟨gb899, 5, none⟩ (.slice Ao67 t894.length co67)) w.heap.size (fun k_ => some k_ ≠ (u873005 : Value).ownBlock ∧ k_ ≠ gb872 ∧ k_ ≠ gb899) (.slice Ao67 t894.length co67) t894) := ⟨by (with_reducible repeat (first | apply Kd.R_alloc | apply Kd.R_drewN | apply Kd.R_drew)); exact Kd.R_mono (Kd.R_far (p := ⟨gb899, 5, none⟩) (Kd.R_far (p := ⟨gb899, 4, none⟩) (Kd.R_far (p := ⟨gb899, 3, none⟩) (Kd.R_far (p := ⟨gb899, 2, none⟩) (Kd.R_far (p := ⟨gb899, 1, none⟩) (Kd.R_far (p := ⟨gb899, 0, none⟩) (Kd.R_mono HO896.out (fun k_ hk => (⟨hk, hk.2⟩ : _ ∧ k_ ≠ gb899))) (fun _ hk => hk.2) (.int .i64 t889)) (fun _ hk => hk.2) (.int .u64 t890)) (fun _ hk => hk.2) (.int .u64 t891)) (fun _ hk => hk.2) (.int .u64 t892)) (fun _ hk => hk.2) (.int .u64 t893)) (fun _ hk => hk.2) (.slice Ao67 t894.length co67)) (fun _ hk => ⟨hk.1.1.1.2, ⟨hk.1.1.2, hk.1.2⟩⟩)⟩
            have n2_ : Aside0 (((((((w64.setCell ⟨gb899, 0, none⟩ (.int .i64 t889)).setCell ⟨gb899, 1, none⟩ (.int .u64 t890)).setCell ⟨gb899, 2, none⟩ (.int .u64 t891)).setCell ⟨gb899, 3, none⟩ (.int .u64 t892)).setCell ⟨gb899, 4, none⟩ (.int .u64 t893)).setCell ⟨gb899, 5, none⟩ (.slice Ao67 t894.length co67)).heap[gb872]? = some (.cells #[.int .i64 x873000_1, .int .u64 x873001_1, .int .u64 x873002_1, .int .u64 x873003_1, .int .u64 x873004_1, u873005] 29 (0, 0))) := ⟨by (with_reducible repeat (first | refine blk_drewN ?_ _ | refine blk_drew ?_ | refine blk_alloc ?_ _)); refine blk_far ?_ NB872_899.out _; (with_reducible repeat (first | refine blk_drewN ?_ _ | refine blk_drew ?_ | refine blk_alloc ?_ _)); refine blk_far ?_ NB872_899.out _; (with_reducible repeat (first | refine blk_drewN ?_ _ | refine blk_drew ?_ | refine blk_alloc ?_ _)); refine blk_far ?_ NB872_899.out _; (with_reducible repeat (first | refine blk_drewN ?_ _ | refine blk_drew ?_ | refine blk_alloc ?_ _)); refine blk_far ?_ NB872_899.out _; (with_reducible repeat (first | refine blk_drewN ?_ _ | refine blk_drew ?_ | refine blk_alloc ?_ _)); refine blk_far ?_ NB872_899.out _; (with_reducible repeat (first | refine blk_drewN ?_ _ | refine blk_drew ?_ | refine blk_alloc ?_ _)); refine blk_far ?_ NB872_899.out _; (with_reducible repeat (first | refine blk_drewN ?_ _ | refine blk_drew ?_ | refine blk_alloc ?_ _)); exact BK872.out⟩
            have n3_ : Aside0 (((((((w64.setCell ⟨gb899, 0, none⟩ (.int .i64 t889)).setCell ⟨gb899, 1, none⟩ (.int .u64 t890)).setCell ⟨gb899, 2, none⟩ (.int .u64 t891)).setCell ⟨gb899, 3, none⟩ (.int .u64 t892)).setCell ⟨gb899, 4, none⟩ (.int .u64 t893)).setCell ⟨gb899, 5, none⟩ (.slice Ao67 t894.length co67)).heap[gb899]? = some (.cells #[.int .i64 t889, .int .u64 t890, .int .u64 t891, .int .u64 t892, .int .u64 t893, .slice Ao67 t894.length co67] 29 (0, 0))) := ⟨by (with_reducible repeat (first | refine blk_drewN ?_ _ | refine blk_drew ?_ | refine blk_alloc ?_ _)); refine blk_put (cs := #[.int .i64 t889, .int .u64 t890, .int .u64 t891, .int .u64 t892, .int .u64 t893, .slice none 0 0]) ?_ 5 _ rfl; (with_reducible repeat (first | refine blk_drewN ?_ _ | refine blk_drew ?_ | refine blk_alloc ?_ _)); refine blk_put (cs := #[.int .i64 t889, .int .u64 t890, .int .u64 t891, .int .u64 t892, .int .u64 0, .slice none 0 0]) ?_ 4 _ rfl; (with_reducible repeat (first | refine blk_drewN ?_ _ | refine blk_drew ?_ | refine blk_alloc ?_ _)); refine blk_put (cs := #[.int .i64 t889, .int .u64 t890, .int .u64 t891, .int .u64 0, .int .u64 0, .slice none 0 0]) ?_ 3 _ rfl; (with_reducible repeat (first | refine blk_drewN ?_ _ | refine blk_drew ?_ | refine blk_alloc ?_ _)); refine blk_put (cs := #[.int .i64 t889, .int .u64 t890, .int .u64 0, .int .u64 0, .int .u64 0, .slice none 0 0]) ?_ 2 _ rfl; (with_reducible repeat (first | refine blk_drewN ?_ _ | refine blk_drew ?_ | refine blk_alloc ?_ _)); refine blk_put (cs := #[.int .i64 t889, .int .u64 0, .int .u64 0, .int .u64 0, .int .u64 0, .slice none 0 0]) ?_ 1 _ rfl; (with_reducible repeat (first | refine blk_drewN ?_ _ | refine blk_drew ?_ | refine blk_alloc ?_ _)); refine blk_put (cs := #[.int .i64 0, .int .u64 0, .int .u64 0, .int .u64 0, .int .u64 0, .slice none 0 0]) ?_ 0 _ rfl; (with_reducible repeat (first | refine blk_drewN ?_ _ | refine blk_drew ?_ | refine blk_alloc ?_ _)); exact BK899.out⟩
            have n4_ : Aside0 (Below w.heap.size w ((((((w64.setCell ⟨gb899, 0, none⟩ (.int .i64 t889)).setCell ⟨gb899, 1, none⟩ (.int .u64 t890)).setCell ⟨gb899, 2, none⟩ (.int .u64 t891)).setCell ⟨gb899, 3, none⟩ (.int .u64 t892)).setCell ⟨gb899, 4, none⟩ (.int .u64 t893)).setCell ⟨gb899, 5, none⟩ (.slice Ao67 t894.length co67))) := ⟨by repeat (first | (with_reducible first | exact HB.out | apply below_alloc | apply pw_below_drewN | apply below_drew1 | refine below_set ?_ GE872.out | refine below_set ?_ GE899.out) | exact HB.out)⟩
            (try clear HO_873005)
            (try clear HO896)
            (try clear BK872)
            (try clear BK899)
            (try clear HB)
            generalize ((((((w64.setCell ⟨gb899, 0, none⟩ (.int .i64 t889)).setCell ⟨gb899, 1, none⟩ (.int .u64 t890)).setCell ⟨gb899, 2, none⟩ (.int .u64 t891)).setCell ⟨gb899, 3, none⟩ (.int .u64 t892)).setCell ⟨gb899, 4, none⟩ (.int .u64 t893)).setCell ⟨gb899, 5, none⟩ (.slice Ao67 t894.length co67)) = w68 at n0_ n1_ n2_ n3_ n4_ ⊢
            have HO_873005 := n0_
            have HO896 := n1_
            have BK872 := n2_
            have BK899 := n3_
            have HB := n4_
            clear n0_ n1_ n2_ n3_ n4_
            have n0_ := Aside0.mk (Kd.R_drew HO_873005.out)
            have n1_ := Aside0.mk (Kd.R_drew HO896.out)
            have n2_ := Aside0.mk (blk_drew BK872.out)
            have n3_ := Aside0.mk (blk_drew BK899.out)
            have n4_ := Aside0.mk (below_drew1 HB.out)
            clear HO_873005
            clear HO896
            clear BK872
            clear BK899
            clear HB
            have HO_873005 := n0_
            have HO896 := n1_
            have BK872 := n2_
            have BK899 := n3_
            have HB := n4_
            clear n0_ n1_ n2_ n3_ n4_
            refine start_ (n := 17) (S := fun w' => w'.cell? ⟨gb899, 0, none⟩ = some (.int .i64 t889) ∧ w'.cell? ⟨gb899, 1, none⟩ = some (.int .u64 t890) ∧ w'.cell? ⟨gb899, 2, none⟩ = some (.int .u64 t891) ∧ w'.cell? ⟨gb899, 3, none⟩ = some (.int .u64 t892) ∧ w'.cell? ⟨gb899, 4, none⟩ = some (.int .u64 t893) ∧ w'.cell? ⟨gb899, 5, none⟩ = some (.slice Ao67 t894.length co67) ∧ w'.cell? ⟨gb872, 0, none⟩ = some (.int .i64 x873000_1) ∧ w'.cell? ⟨gb872, 1, none⟩ = some (.int .u64 x873001_1) ∧ w'.cell? ⟨gb872, 2, none⟩ = some (.int .u64 x873002_1) ∧ w'.cell? ⟨gb872, 3, none⟩ = some (.int .u64 x873003_1) ∧ w'.cell? ⟨gb872, 4, none⟩ = some (.int .u64 x873004_1) ∧ w'.cell? ⟨gb872, 5, none⟩ = some (u873005)) (ds := []) #[ff,ff,ff,ff,ff,ff,ff,ff,ff,ff,ff,ff,ff,ff,ff,ff,ff] (by kernel_rfl) rfl rfl ⟨(blk_cell BK899.out 0).trans rfl, (blk_cell BK899.out 1).trans rfl, (blk_cell BK899.out 2).trans rfl, (blk_cell BK899.out 3).trans rfl, (blk_cell BK899.out 4).trans rfl, (blk_cell BK899.out 5).trans rfl, (blk_cell BK872.out 0).trans rfl, (blk_cell BK872.out 1).trans rfl, (blk_cell BK872.out 2).trans rfl, (blk_cell BK872.out 3).trans rfl, (blk_cell BK872.out 4).trans rfl, (blk_cell BK872.out 5).trans rfl⟩ (fun hHeld => ?_); refine with_tabW scribelaw09_RegexSigns.tab20 scribelaw09_RegexSigns.bits20 (fun HT_ HW_ => ?_)
            generalize w68.drew = w69 at HO_873005 HO896 BK872 BK899 HB hHeld ⊢
            refine one_ (i := 0) (N := some 64) #[tt,ff,ff,ff,ff,ff,ff,ff,ff,ff,ff,ff,ff,ff,ff,ff,ff] rfl rfl (one_of HT_.out (by kernel_rfl)) (by decide) (fun K hK => ?_)
            refine goes_ Try.func11 (by kernel_rfl) rfl #[] (by rfl) rfl rfl (by (try simp only [List.map_toArray, List.map_cons, List.map_nil]); first | done | rfl | (simp only [List.length_drop, List.length_take]; rfl)) ?_
            with_reducible refine (scribelaw09_awake.calls kj11  true _ ?side1 A49.out).mono ?_
            (case side1 => exact TB.below hT (by repeat (first | (with_reducible first | exact HB.out | apply below_alloc | apply pw_below_drewN | apply below_drew1 | refine below_set ?_ GE872.out | refine below_set ?_ GE899.out) | exact HB.out)))
            rintro e w70 ⟨rfl, hb⟩
            refine ⟨_, rfl, ?_⟩
            have n0_ := Aside0.mk (Kd.R_below (by (with_reducible repeat (first | apply Kd.R_alloc | apply Kd.R_drewN | apply Kd.R_drew)); exact HO_873005.out) hb)
            have n1_ := Aside0.mk (Kd.R_below (by (with_reducible repeat (first | apply Kd.R_alloc | apply Kd.R_drewN | apply Kd.R_drew)); exact HO896.out) hb)
            have n2_ := Aside0.mk (blk_below (g := gb872) (o := .cells #[.int .i64 x873000_1, .int .u64 x873001_1, .int .u64 x873002_1, .int .u64 x873003_1, .int .u64 x873004_1, u873005] 29 (0, 0)) (by (with_reducible repeat (first | refine blk_drewN ?_ _ | refine blk_drew ?_ | refine blk_alloc ?_ _)); exact BK872.out) hb)
            have n3_ := Aside0.mk (blk_below (g := gb899) (o := .cells #[.int .i64 t889, .int .u64 t890, .int .u64 t891, .int .u64 t892, .int .u64 t893, .slice Ao67 t894.length co67] 29 (0, 0)) (by (with_reducible repeat (first | refine blk_drewN ?_ _ | refine blk_drew ?_ | refine blk_alloc ?_ _)); exact BK899.out) hb)
            have n4_ := Aside0.mk (below_step (by repeat (first | (with_reducible first | exact HB.out | apply below_alloc | apply pw_below_drewN | apply below_drew1 | refine below_set ?_ GE872.out | refine below_set ?_ GE899.out) | exact HB.out)) hb)
            clear HO_873005
            clear HO896
            clear BK872
            clear BK899
            clear HB
            have HO_873005 := n0_
            have HO896 := n1_
            have BK872 := n2_
            have BK899 := n3_
            have HB := n4_
            clear n0_ n1_ n2_ n3_ n4_
            (try clear hb)
            (try clear hb2)
            (try clear hk)
            (try clear hi)
            refine hK.out _ _ ⟨(blk_cell BK899.out 0).trans rfl, (blk_cell BK899.out 1).trans rfl, (blk_cell BK899.out 2).trans rfl, (blk_cell BK899.out 3).trans rfl, (blk_cell BK899.out 4).trans rfl, (blk_cell BK899.out 5).trans rfl, (blk_cell BK872.out 0).trans rfl, (blk_cell BK872.out 1).trans rfl, (blk_cell BK872.out 2).trans rfl, (blk_cell BK872.out 3).trans rfl, (blk_cell BK872.out 4).trans rfl, (blk_cell BK872.out 5).trans rfl⟩ (fun hHeld => ?_)
            clear hK K
            refine norm_ (a' := ?_) ?_ ?_
            rotate_left
            ·show Act.put _ (some 64) _ = _
             simp only [Act.put, setA, setZ, setS, i64_w, i32_w]
             rfl
            refine pure_ (i := 1) (N := some 65) (v := ?_) (a' := ?_) #[tt,tt,ff,ff,ff,ff,ff,ff,ff,ff,ff,ff,ff,ff,ff,ff,ff] rfl rfl (any_of HT_.out (by kernel_rfl)) (fun _ _ _ h => h) (Or.inl ⟨by rfl, ?_⟩) ?_ ?_
            rotate_left
            ·intro w'
             go_simp
             with_reducible rfl
            rotate_left
            ·simp only [Act.put, setA, setZ, setS, i64_w, i32_w]
             rfl
            refine pure_ (i := 2) (N := some 66) (v := ?_) (a' := ?_) #[tt,tt,tt,ff,ff,ff,ff,ff,ff,ff,ff,ff,ff,ff,ff,ff,ff] rfl rfl (any_of HT_.out (by kernel_rfl)) (fun _ _ _ h => h) (Or.inl ⟨by rfl, ?_⟩) ?_ ?_
            rotate_left
            ·intro w'
             go_simp
             with_reducible rfl
            rotate_left
            ·simp only [Act.put, setA, setZ, setS, i64_w, i32_w]
             rfl
            refine pure_ (i := 3) (N := some 67) (v := ?_) (a' := ?_) #[tt,tt,tt,tt,ff,ff,ff,ff,ff,ff,ff,ff,ff,ff,ff,ff,ff] rfl rfl (any_of HT_.out (by kernel_rfl)) (fun _ _ _ h => h) (Or.inl ⟨by rfl, ?_⟩) ?_ ?_
            rotate_left
            ·intro w'
             go_simp
             with_reducible rfl
            rotate_left
            ·simp only [Act.put, setA, setZ, setS, i64_w, i32_w]
             rfl
            refine pure_ (i := 4) (N := some 68) (v := ?_) (a' := ?_) #[tt,tt,tt,tt,tt,ff,ff,ff,ff,ff,ff,ff,ff,ff,ff,ff,ff] rfl rfl (any_of HT_.out (by kernel_rfl)) (fun _ _ _ h => h) (Or.inl ⟨by rfl, ?_⟩) ?_ ?_
            rotate_left
            ·intro w'
             go_simp
             with_reducible rfl
            rotate_left
            ·simp only [Act.put, setA, setZ, setS, i64_w, i32_w]
             rfl
            refine pure_ (i := 5) (N := some 69) (v := ?_) (a' := ?_) #[tt,tt,tt,tt,tt,tt,ff,ff,ff,ff,ff,ff,ff,ff,ff,ff,ff] rfl rfl (any_of HT_.out (by kernel_rfl)) (fun _ _ _ h => h) (Or.inl ⟨by rfl, ?_⟩) ?_ ?_
            rotate_left
            ·intro w'
             go_simp
             with_reducible rfl
            rotate_left
            ·simp only [Act.put, setA, setZ, setS, i64_w, i32_w]
             rfl
            refine pure_ (i := 6) (N := some 70) (v := ?_) (a' := ?_) #[tt,tt,tt,tt,tt,tt,tt,ff,ff,ff,ff,ff,ff,ff,ff,ff,ff] rfl rfl (any_of HT_.out (by kernel_rfl)) (fun _ _ _ h => h) (Or.inl ⟨by rfl, ?_⟩) ?_ ?_
            rotate_left
            ·intro w'
             go_simp
             with_reducible rfl
            rotate_left
            ·simp only [Act.put, setA, setZ, setS, i64_w, i32_w]
             rfl
            refine pure_ (i := 7) (N := some 71) (v := ?_) (a' := ?_) #[tt,tt,tt,tt,tt,tt,tt,tt,ff,ff,ff,ff,ff,ff,ff,ff,ff] rfl rfl (any_of HT_.out (by kernel_rfl)) (fun _ _ _ h => h) (Or.inl ⟨by rfl, ?_⟩) ?_ ?_
            rotate_left
            ·intro w'
             go_simp
             with_reducible rfl
            rotate_left
            ·simp only [Act.put, setA, setZ, setS, i64_w, i32_w]
             rfl
            refine take_ (i := 8) (N := some 72) (v := ?_) (a' := ?_) #[tt,tt,tt,tt,tt,tt,tt,tt,tt,ff,ff,ff,ff,ff,ff,ff,ff] rfl rfl (take_ofW HT_.out HW_.out (by kernel_rfl)) (fun _ _ _ h => h) (Or.inl ⟨by rfl, ?_⟩) hHeld ?_ ?_
            rotate_left
            ·rintro w' ⟨s0, s1, s2, s3, s4, s5, s6, s7, s8, s9, s10, s11⟩
             go_simp
             with_reducible rfl
            rotate_left
            ·simp only [Act.put, setA, setZ, setS, i64_w, i32_w]
             rfl
            refine take_ (i := 10) (N := some 74) (v := ?_) (a' := ?_) #[tt,tt,tt,tt,tt,tt,tt,tt,tt,ff,tt,ff,ff,ff,ff,ff,ff] rfl rfl (take_ofW HT_.out HW_.out (by kernel_rfl)) (fun _ _ _ h => h) (Or.inl ⟨by rfl, ?_⟩) hHeld ?_ ?_
            rotate_left
            ·rintro w' ⟨s0, s1, s2, s3, s4, s5, s6, s7, s8, s9, s10, s11⟩
             go_simp
             with_reducible rfl
            rotate_left
            ·simp only [Act.put, setA, setZ, setS, i64_w, i32_w]
             rfl
            refine one_ (i := 9) (N := some 73) #[tt,tt,tt,tt,tt,tt,tt,tt,tt,tt,tt,ff,ff,ff,ff,ff,ff] rfl rfl (one_of HT_.out (by kernel_rfl)) (by decide) (fun K hK => ?_)
            refine goes_ Try.func15 (by kernel_rfl) rfl #[.agg #[.int .i64 t889, .int .u64 t890, .int .u64 t891, .int .u64 t892, .int .u64 t893, .slice Ao67 t894.length co67]] (by rfl) rfl rfl (by (try simp only [List.map_toArray, List.map_cons, List.map_nil]); first | done | rfl | (simp only [List.length_drop, List.length_take]; rfl)) ?_
            with_reducible refine (regex_Print.calls kj11 t889 t890 t891 t892 t893 _ _ t894 t901 _ ?side1 ?side2 ?side3 A61.out).mono ?_
            (case side1 => repeat (first | exact (Kd.R_reads' HO896.out).2.2 | (with_reducible refine Kd.C_alloc ?_ _) | (with_reducible refine Kd.C_drewN ?_ _) | (with_reducible refine Kd.C_drew ?_)))
            (case side2 => exact (Kd.R_reads' HO896.out).2.1)
            (case side3 => exact TB.below hT (by repeat (first | (with_reducible first | exact HB.out | apply below_alloc | apply pw_below_drewN | apply below_drew1 | refine below_set ?_ GE872.out | refine below_set ?_ GE899.out) | exact HB.out)))
            rintro e w71 ⟨rfl, hb⟩
            refine ⟨_, rfl, ?_⟩
            have n0_ := Aside0.mk (Kd.R_below (by (with_reducible repeat (first | apply Kd.R_alloc | apply Kd.R_drewN | apply Kd.R_drew)); exact HO_873005.out) hb)
            have n1_ := Aside0.mk (Kd.R_below (by (with_reducible repeat (first | apply Kd.R_alloc | apply Kd.R_drewN | apply Kd.R_drew)); exact HO896.out) hb)
            have n2_ := Aside0.mk (blk_below (g := gb872) (o := .cells #[.int .i64 x873000_1, .int .u64 x873001_1, .int .u64 x873002_1, .int .u64 x873003_1, .int .u64 x873004_1, u873005] 29 (0, 0)) (by (with_reducible repeat (first | refine blk_drewN ?_ _ | refine blk_drew ?_ | refine blk_alloc ?_ _)); exact BK872.out) hb)
            have n3_ := Aside0.mk (blk_below (g := gb899) (o := .cells #[.int .i64 t889, .int .u64 t890, .int .u64 t891, .int .u64 t892, .int .u64 t893, .slice Ao67 t894.length co67] 29 (0, 0)) (by (with_reducible repeat (first | refine blk_drewN ?_ _ | refine blk_drew ?_ | refine blk_alloc ?_ _)); exact BK899.out) hb)
            have n4_ := Aside0.mk (below_step (by repeat (first | (with_reducible first | exact HB.out | apply below_alloc | apply pw_below_drewN | apply below_drew1 | refine below_set ?_ GE872.out | refine below_set ?_ GE899.out) | exact HB.out)) hb)
            clear HO_873005
            clear HO896
            clear BK872
            clear BK899
            clear HB
            have HO_873005 := n0_
            have HO896 := n1_
            have BK872 := n2_
            have BK899 := n3_
            have HB := n4_
            clear n0_ n1_ n2_ n3_ n4_
            (try clear hb)
            (try clear hb2)
            (try clear hk)
            (try clear hi)
            obtain ⟨Ao72, co72, eo72⟩ := Kd.R_slice HO_873005.out
            (first | subst eo72 | (injection eo72 with f1_ f2_ f3_; have f4_ := f1_.symm; have f5_ := f3_.symm; clear f1_ f2_ f3_; subst f4_; subst f5_))
            refine hK.out _ _ ⟨(blk_cell BK899.out 0).trans rfl, (blk_cell BK899.out 1).trans rfl, (blk_cell BK899.out 2).trans rfl, (blk_cell BK899.out 3).trans rfl, (blk_cell BK899.out 4).trans rfl, (blk_cell BK899.out 5).trans rfl, (blk_cell BK872.out 0).trans rfl, (blk_cell BK872.out 1).trans rfl, (blk_cell BK872.out 2).trans rfl, (blk_cell BK872.out 3).trans rfl, (blk_cell BK872.out 4).trans rfl, (blk_cell BK872.out 5).trans rfl⟩ (fun hHeld => ?_)
            clear hK K
            refine norm_ (a' := ?_) ?_ ?_
            rotate_left
            ·show Act.put _ (some 73) _ = _
             simp only [Act.put, setA, setZ, setS, i64_w, i32_w]
             rfl
            refine one_ (i := 11) (N := some 75) #[tt,tt,tt,tt,tt,tt,tt,tt,tt,tt,tt,tt,ff,ff,ff,ff,ff] rfl rfl (one_of HT_.out (by kernel_rfl)) (by decide) (fun K hK => ?_)
            refine goes_ Try.func15 (by kernel_rfl) rfl #[.agg #[.int .i64 x873000_1, .int .u64 x873001_1, .int .u64 x873002_1, .int .u64 x873003_1, .int .u64 x873004_1, .slice Ao72 x873005_1.length co72]] (by rfl) rfl rfl (by (try simp only [List.map_toArray, List.map_cons, List.map_nil]); first | done | rfl | (simp only [List.length_drop, List.length_take]; rfl)) ?_
            with_reducible refine (regex_Print.calls kj11 x873000_1 x873001_1 x873002_1 x873003_1 x873004_1 _ _ x873005_1 t902 _ ?side1 ?side2 ?side3 A62.out).mono ?_
            (case side1 => repeat (first | exact (Kd.R_reads' HO_873005.out).2.2 | (with_reducible refine Kd.C_alloc ?_ _) | (with_reducible refine Kd.C_drewN ?_ _) | (with_reducible refine Kd.C_drew ?_)))
            (case side2 => exact (Kd.R_reads' HO_873005.out).2.1)
            (case side3 => exact TB.below hT (by repeat (first | (with_reducible first | exact HB.out | apply below_alloc | apply pw_below_drewN | apply below_drew1 | refine below_set ?_ GE872.out | refine below_set ?_ GE899.out) | exact HB.out)))
            rintro e w73 ⟨rfl, hb⟩
            refine ⟨_, rfl, ?_⟩
            have n0_ := Aside0.mk (Kd.R_below (by (with_reducible repeat (first | apply Kd.R_alloc | apply Kd.R_drewN | apply Kd.R_drew)); exact HO_873005.out) hb)
            have n1_ := Aside0.mk (Kd.R_below (by (with_reducible repeat (first | apply Kd.R_alloc | apply Kd.R_drewN | apply Kd.R_drew)); exact HO896.out) hb)
            have n2_ := Aside0.mk (blk_below (g := gb872) (o := .cells #[.int .i64 x873000_1, .int .u64 x873001_1, .int .u64 x873002_1, .int .u64 x873003_1, .int .u64 x873004_1, .slice Ao72 x873005_1.length co72] 29 (0, 0)) (by (with_reducible repeat (first | refine blk_drewN ?_ _ | refine blk_drew ?_ | refine blk_alloc ?_ _)); exact BK872.out) hb)
            have n3_ := Aside0.mk (blk_below (g := gb899) (o := .cells #[.int .i64 t889, .int .u64 t890, .int .u64 t891, .int .u64 t892, .int .u64 t893, .slice Ao67 t894.length co67] 29 (0, 0)) (by (with_reducible repeat (first | refine blk_drewN ?_ _ | refine blk_drew ?_ | refine blk_alloc ?_ _)); exact BK899.out) hb)
            have n4_ := Aside0.mk (below_step (by repeat (first | (with_reducible first | exact HB.out | apply below_alloc | apply pw_below_drewN | apply below_drew1 | refine below_set ?_ GE872.out | refine below_set ?_ GE899.out) | exact HB.out)) hb)
            clear HO_873005
            clear HO896
            clear BK872
            clear BK899
            clear HB
            have HO_873005 := n0_
            have HO896 := n1_
            have BK872 := n2_
            have BK899 := n3_
            have HB := n4_
            clear n0_ n1_ n2_ n3_ n4_
            (try clear hb)
            (try clear hb2)
            (try clear hk)
            (try clear hi)
            refine hK.out _ _ ⟨(blk_cell BK899.out 0).trans rfl, (blk_cell BK899.out 1).trans rfl, (blk_cell BK899.out 2).trans rfl, (blk_cell BK899.out 3).trans rfl, (blk_cell BK899.out 4).trans rfl, (blk_cell BK899.out 5).trans rfl, (blk_cell BK872.out 0).trans rfl, (blk_cell BK872.out 1).trans rfl, (blk_cell BK872.out 2).trans rfl, (blk_cell BK872.out 3).trans rfl, (blk_cell BK872.out 4).trans rfl, (blk_cell BK872.out 5).trans rfl⟩ (fun hHeld => ?_)
            clear hK K
            refine norm_ (a' := ?_) ?_ ?_
            rotate_left
            ·show Act.put _ (some 75) _ = _
             simp only [Act.put, setA, setZ, setS, i64_w, i32_w]
             rfl
            refine pure_ (i := 12) (N := some 76) (v := ?_) (a' := ?_) #[tt,tt,tt,tt,tt,tt,tt,tt,tt,tt,tt,tt,tt,ff,ff,ff,ff] rfl rfl (any_of HT_.out (by kernel_rfl)) (fun _ _ _ h => h) (Or.inl ⟨by rfl, ?_⟩) ?_ ?_
            rotate_left
            ·intro w'
             go_simp
             with_reducible rfl
            rotate_left
            ·simp only [Act.put, setA, setZ, setS, i64_w, i32_w]
             rfl
            refine pure_ (i := 13) (N := some 77) (v := ?_) (a' := ?_) #[tt,tt,tt,tt,tt,tt,tt,tt,tt,tt,tt,tt,tt,tt,ff,ff,ff] rfl rfl (any_of HT_.out (by kernel_rfl)) (fun _ _ _ h => h) (Or.inl ⟨by rfl, ?_⟩) ?_ ?_
            rotate_left
            ·intro w'
             go_simp
             with_reducible rfl
            rotate_left
            ·simp only [Act.put, setA, setZ, setS, i64_w, i32_w]
             rfl
            refine pure_ (i := 14) (N := some 78) (v := ?_) (a' := ?_) #[tt,tt,tt,tt,tt,tt,tt,tt,tt,tt,tt,tt,tt,tt,tt,ff,ff] rfl rfl (any_of HT_.out (by kernel_rfl)) (fun _ _ _ h => h) (Or.inl ⟨by rfl, ?_⟩) ?_ ?_
            rotate_left
            ·intro w'
             go_simp
             with_reducible rfl
            rotate_left
            ·simp only [Act.put, setA, setZ, setS, i64_w, i32_w]
             rfl
            refine pure_ (i := 15) (N := some 79) (v := ?_) (a' := ?_) #[tt,tt,tt,tt,tt,tt,tt,tt,tt,tt,tt,tt,tt,tt,tt,tt,ff] rfl rfl (any_of HT_.out (by kernel_rfl)) (fun _ _ _ h => h) (Or.inl ⟨by rfl, ?_⟩) ?_ ?_
            rotate_left
            ·intro w'
             go_simp
             with_reducible rfl
            rotate_left
            ·simp only [Act.put, setA, setZ, setS, i64_w, i32_w]
             rfl
            refine pure_ (i := 16) (N := some 4) (v := ?_) (a' := ?_) #[tt,tt,tt,tt,tt,tt,tt,tt,tt,tt,tt,tt,tt,tt,tt,tt,tt] rfl rfl (any_of HT_.out (by kernel_rfl)) (fun _ _ _ h => h) (Or.inl ⟨by rfl, ?_⟩) ?_ ?_
            rotate_left
            ·intro w'
             go_simp
             with_reducible rfl
            rotate_left
            ·simp only [Act.put, setA, setZ, setS, i64_w, i32_w]
             rfl
            refine done_ (done_of HT_.out (by kernel_rfl)) ?_
            try go_wp2
            go_ret
            exact ⟨by first | rfl | (simp [errW_none, errW_some] <;> rfl) | (simp [errW_none, errW_some] <;> first | rfl | exact isEmpty_bne _) | (simp [*, errW_none, errW_some] <;> rfl), by repeat (first | (with_reducible first | exact HB.out | apply below_alloc | apply pw_below_drewN | apply below_drew1 | refine below_set ?_ GE872.out | refine below_set ?_ GE899.out) | exact HB.out)⟩
           ·rw [if_neg c60] at H
            have c60b0 : (t898 == 0) = false := beq_eq_false_iff_ne.mpr c60
            have c60b1 : (t898 != 0) = true := bne_iff_ne.mpr c60
            obtain rfl := Option.some.inj H
            try go_wp2_with (first | ((with_reducible refine gate_callee (f := 10) rfl ?_); refine goesL_ (some 60) rfl rfl Try.func10 (by kernel_rfl) rfl #[.string x8_1] rfl (by (try simp only [List.map_toArray, List.map_cons, List.map_nil]); first | done | rfl | (simp only [List.length_drop, List.length_take]; rfl)) ?_; (with_reducible refine (regex_Parse.calls kj11 x8_1 t889 t890 t891 t892 t893 t894 t897 t898 _ ?side1 A48.out).mono ?_); (case side1 => exact TB.below hT (by repeat (first | (with_reducible first | exact HB.out | apply below_alloc | apply pw_below_drewN | apply below_drew1 | refine below_set ?_ GE872.out) | exact HB.out))); rintro e w74 ⟨v895, rfl, ho0, hb⟩; refine ⟨_, rfl, ?_⟩; have n0_ := Aside0.mk (Kd.R_elder' (by (with_reducible repeat (first | apply Kd.R_alloc | apply Kd.R_drewN | apply Kd.R_drew)); exact HO_873005.out) (Kd.R_base ho0) hb); have n1_ := Aside0.mk (Kd.R_lower (Kd.R_newB (Kd.R_new' ho0 (Kd.R_lt (by (with_reducible repeat (first | apply Kd.R_alloc | apply Kd.R_drewN | apply Kd.R_drew)); exact HO_873005.out))) (g := gb872) (o := .cells #[.int .i64 x873000_1, .int .u64 x873001_1, .int .u64 x873002_1, .int .u64 x873003_1, .int .u64 x873004_1, u873005] 29 (0, 0)) (by (with_reducible repeat (first | refine blk_drewN ?_ _ | refine blk_drew ?_ | refine blk_alloc ?_ _)); exact BK872.out)) (below_size (by repeat (first | (with_reducible first | exact HB.out | apply below_alloc | apply pw_below_drewN | apply below_drew1 | refine below_set ?_ GE872.out) | exact HB.out)))); have n2_ := Aside0.mk (blk_below (g := gb872) (o := .cells #[.int .i64 x873000_1, .int .u64 x873001_1, .int .u64 x873002_1, .int .u64 x873003_1, .int .u64 x873004_1, u873005] 29 (0, 0)) (by (with_reducible repeat (first | refine blk_drewN ?_ _ | refine blk_drew ?_ | refine blk_alloc ?_ _)); exact BK872.out) hb); have n3_ := Aside0.mk (below_step (by repeat (first | (with_reducible first | exact HB.out | apply below_alloc | apply pw_below_drewN | apply below_drew1 | refine below_set ?_ GE872.out) | exact HB.out)) hb); clear HO_873005; clear BK872; clear HB; have HO_873005 := n0_; have HO896 := n1_; have BK872 := n2_; have HB := n3_; clear n0_ n1_ n2_ n3_; (try clear hb); (try clear hb2); (try clear hk); (try clear hi); (try clear ho0)) | ((with_reducible refine gate_dst (N := 12) rfl ?_); refine box_event ?hg (N := 12) ?hd (cs := #[.int .i64 0, .int .u64 0, .int .u64 0, .int .u64 0, .int .u64 0, .slice none 0 0]) (t := 29) ?hr ?_; (case hd => rfl); (case hg => rfl); (case hr => first | (go_simp; done) | (go_simp; rfl)); intro gb899 hg w75 hbox hb; have n0_ := Aside0.mk (Kd.R_below (Kd.R_elderB (by (with_reducible repeat (first | apply Kd.R_alloc | apply Kd.R_drewN | apply Kd.R_drew)); exact HO_873005.out) gb899 (Nat.le_of_eq hg.symm)) hb); have n1_ := Aside0.mk (Kd.R_below (Kd.R_elderB (by (with_reducible repeat (first | apply Kd.R_alloc | apply Kd.R_drewN | apply Kd.R_drew)); exact HO896.out) gb899 (Nat.le_of_eq hg.symm)) hb); have n2_ := Aside0.mk (blk_below (g := gb872) (o := .cells #[.int .i64 x873000_1, .int .u64 x873001_1, .int .u64 x873002_1, .int .u64 x873003_1, .int .u64 x873004_1, u873005] 29 (0, 0)) (by (with_reducible repeat (first | refine blk_drewN ?_ _ | refine blk_drew ?_ | refine blk_alloc ?_ _)); exact BK872.out) hb); have n3_ := Aside0.mk (below_step (by repeat (first | (with_reducible first | exact HB.out | apply below_alloc | apply pw_below_drewN | apply below_drew1 | refine below_set ?_ GE872.out) | exact HB.out)) hb); have n4_ := Aside0.mk (hbox); have n5_ := Aside0.mk ((by rw [hg]; exact (below_size (by repeat (first | (with_reducible first | exact HB.out | apply below_alloc | apply pw_below_drewN | apply below_drew1 | refine below_set ?_ GE872.out) | exact HB.out))) : w.heap.size ≤ gb899)); have n6_ := Aside0.mk ((by rw [hg]; exact (below_size (by repeat (first | (with_reducible first | exact HB.out | apply below_alloc | apply pw_below_drewN | apply below_drew1 | refine below_set ?_ GE872.out) | exact HB.out))) : w.heap.size ≤ gb899)); have n7_ := Aside0.mk ((by rw [hg]; exact Nat.ne_of_lt (blk_lt (g := gb872) (o := .cells #[.int .i64 x873000_1, .int .u64 x873001_1, .int .u64 x873002_1, .int .u64 x873003_1, .int .u64 x873004_1, u873005] 29 (0, 0)) (by (with_reducible repeat (first | refine blk_drewN ?_ _ | refine blk_drew ?_ | refine blk_alloc ?_ _)); exact BK872.out)) : gb872 ≠ gb899)); have n8_ := Aside0.mk ((by rw [hg]; exact Nat.ne_of_gt (blk_lt (g := gb872) (o := .cells #[.int .i64 x873000_1, .int .u64 x873001_1, .int .u64 x873002_1, .int .u64 x873003_1, .int .u64 x873004_1, u873005] 29 (0, 0)) (by (with_reducible repeat (first | refine blk_drewN ?_ _ | refine blk_drew ?_ | refine blk_alloc ?_ _)); exact BK872.out)) : gb899 ≠ gb872)); clear HO_873005; clear HO896; clear BK872; clear HB; have HO_873005 := n0_; have HO896 := n1_; have BK872 := n2_; have HB := n3_; have BK899 := n4_; have GW899 := n5_; have GE899 := n6_; have NB872_899 := n7_; have NB899_872 := n8_; clear n0_ n1_ n2_ n3_ n4_ n5_ n6_ n7_ n8_; clear hb hbox hg; have hnb76 := NB899_872.out; have hnc76 := NB872_899.out; have hcz77_0 : w75.cell? ⟨gb899, 0, none⟩ = some (.int .i64 0) := (blk_cell BK899.out 0).trans rfl; have hcz77_1 : w75.cell? ⟨gb899, 1, none⟩ = some (.int .u64 0) := (blk_cell BK899.out 1).trans rfl; have hcz77_2 : w75.cell? ⟨gb899, 2, none⟩ = some (.int .u64 0) := (blk_cell BK899.out 2).trans rfl; have hcz77_3 : w75.cell? ⟨gb899, 3, none⟩ = some (.int .u64 0) := (blk_cell BK899.out 3).trans rfl; have hcz77_4 : w75.cell? ⟨gb899, 4, none⟩ = some (.int .u64 0) := (blk_cell BK899.out 4).trans rfl; have hcz77_5 : w75.cell? ⟨gb899, 5, none⟩ = some (.slice none 0 0) := (blk_cell BK899.out 5).trans rfl; have hfz77_0 := blk_frozen BK899.out 0; have hfz77_1 := blk_frozen BK899.out 1; have hfz77_2 := blk_frozen BK899.out 2; have hfz77_3 := blk_frozen BK899.out 3; have hfz77_4 := blk_frozen BK899.out 4; have hfz77_5 := blk_frozen BK899.out 5; obtain ⟨Ao78, co78, eo78⟩ := Kd.R_slice HO896.out; subst eo78))
            have n0_ : Aside0 (Kd.R k29 29 ((((((w75.setCell ⟨gb899, 0, none⟩ (.int .i64 t889)).setCell ⟨gb899, 1, none⟩ (.int .u64 t890)).setCell ⟨gb899, 2, none⟩ (.int .u64 t891)).setCell ⟨gb899, 3, none⟩ (.int .u64 t892)).setCell ⟨gb899, 4, none⟩ (.int .u64 t893)).setCell ⟨gb899, 5, none⟩ (.slice Ao78 t894.length co78)) w.heap.size (fun k_ => some k_ ≠ (.slice Ao78 t894.length co78 : Value).ownBlock ∧ k_ ≠ gb872 ∧ k_ ≠ gb899) u873005 x873005_1) := ⟨by (with_reducible repeat (first | apply Kd.R_alloc | apply Kd.R_drewN | apply Kd.R_drew)); exact Kd.R_mono (Kd.R_far (p := ⟨gb899, 5, none⟩) (Kd.R_far (p := ⟨gb899, 4, none⟩) (Kd.R_far (p := ⟨gb899, 3, none⟩) (Kd.R_far (p := ⟨gb899, 2, none⟩) (Kd.R_far (p := ⟨gb899, 1, none⟩) (Kd.R_far (p := ⟨gb899, 0, none⟩) (Kd.R_mono HO_873005.out (fun k_ hk => (⟨hk, hk.2⟩ : _ ∧ k_ ≠ gb899))) (fun _ hk => hk.2) (.int .i64 t889)) (fun _ hk => hk.2) (.int .u64 t890)) (fun _ hk => hk.2) (.int .u64 t891)) (fun _ hk => hk.2) (.int .u64 t892)) (fun _ hk => hk.2) (.int .u64 t893)) (fun _ hk => hk.2) (.slice Ao78 t894.length co78)) (fun _ hk => ⟨hk.1.1.2, ⟨hk.1.1.1, hk.1.2⟩⟩)⟩
            have n1_ : Aside0 (Kd.R k29 29 ((((((w75.setCell ⟨gb899, 0, none⟩ (.int .i64 t889)).setCell ⟨gb899, 1, none⟩ (.int .u64 t890)).setCell ⟨gb899, 2, none⟩ (.int .u64 t891)).setCell ⟨gb899, 3, none⟩ (.int .u64 t892)).setCell ⟨gb899, 4, none⟩ (.int .u64 t893)).setCell ⟨gb899, 5, none⟩ (.slice Ao78 t894.length co78)) w.heap.size (fun k_ => some k_ ≠ (u873005 : Value).ownBlock ∧ k_ ≠ gb872 ∧ k_ ≠ gb899) (.slice Ao78 t894.length co78) t894) := ⟨by (with_reducible repeat (first | apply Kd.R_alloc | apply Kd.R_drewN | apply Kd.R_drew)); exact Kd.R_mono (Kd.R_far (p := ⟨gb899, 5, none⟩) (Kd.R_far (p := ⟨gb899, 4, none⟩) (Kd.R_far (p := ⟨gb899, 3, none⟩) (Kd.R_far (p := ⟨gb899, 2, none⟩) (Kd.R_far (p := ⟨gb899, 1, none⟩) (Kd.R_far (p := ⟨gb899, 0, none⟩) (Kd.R_mono HO896.out (fun k_ hk => (⟨hk, hk.2⟩ : _ ∧ k_ ≠ gb899))) (fun _ hk => hk.2) (.int .i64 t889)) (fun _ hk => hk.2) (.int .u64 t890)) (fun _ hk => hk.2) (.int .u64 t891)) (fun _ hk => hk.2) (.int .u64 t892)) (fun _ hk => hk.2) (.int .u64 t893)) (fun _ hk => hk.2) (.slice Ao78 t894.length co78)) (fun _ hk => ⟨hk.1.1.1.2, ⟨hk.1.1.2, hk.1.2⟩⟩)⟩
            have n2_ : Aside0 (((((((w75.setCell ⟨gb899, 0, none⟩ (.int .i64 t889)).setCell ⟨gb899, 1, none⟩ (.int .u64 t890)).setCell ⟨gb899, 2, none⟩ (.int .u64 t891)).setCell ⟨gb899, 3, none⟩ (.int .u64 t892)).setCell ⟨gb899, 4, none⟩ (.int .u64 t893)).setCell ⟨gb899, 5, none⟩ (.slice Ao78 t894.length co78)).heap[gb872]? = some (.cells #[.int .i64 x873000_1, .int .u64 x873001_1, .int .u64 x873002_1, .int .u64 x873003_1, .int .u64 x873004_1, u873005] 29 (0, 0))) := ⟨by (with_reducible repeat (first | refine blk_drewN ?_ _ | refine blk_drew ?_ | refine blk_alloc ?_ _)); refine blk_far ?_ NB872_899.out _; (with_reducible repeat (first | refine blk_drewN ?_ _ | refine blk_drew ?_ | refine blk_alloc ?_ _)); refine blk_far ?_ NB872_899.out _; (with_reducible repeat (first | refine blk_drewN ?_ _ | refine blk_drew ?_ | refine blk_alloc ?_ _)); refine blk_far ?_ NB872_899.out _; (with_reducible repeat (first | refine blk_drewN ?_ _ | refine blk_drew ?_ | refine blk_alloc ?_ _)); refine blk_far ?_ NB872_899.out _; (with_reducible repeat (first | refine blk_drewN ?_ _ | refine blk_drew ?_ | refine blk_alloc ?_ _)); refine blk_far ?_ NB872_899.out _; (with_reducible repeat (first | refine blk_drewN ?_ _ | refine blk_drew ?_ | refine blk_alloc ?_ _)); refine blk_far ?_ NB872_899.out _; (with_reducible repeat (first | refine blk_drewN ?_ _ | refine blk_drew ?_ | refine blk_alloc ?_ _)); exact BK872.out⟩
            have n3_ : Aside0 (((((((w75.setCell ⟨gb899, 0, none⟩ (.int .i64 t889)).setCell ⟨gb899, 1, none⟩ (.int .u64 t890)).setCell ⟨gb899, 2, none⟩ (.int .u64 t891)).setCell ⟨gb899, 3, none⟩ (.int .u64 t892)).setCell ⟨gb899, 4, none⟩ (.int .u64 t893)).setCell ⟨gb899, 5, none⟩ (.slice Ao78 t894.length co78)).heap[gb899]? = some (.cells #[.int .i64 t889, .int .u64 t890, .int .u64 t891, .int .u64 t892, .int .u64 t893, .slice Ao78 t894.length co78] 29 (0, 0))) := ⟨by (with_reducible repeat (first | refine blk_drewN ?_ _ | refine blk_drew ?_ | refine blk_alloc ?_ _)); refine blk_put (cs := #[.int .i64 t889, .int .u64 t890, .int .u64 t891, .int .u64 t892, .int .u64 t893, .slice none 0 0]) ?_ 5 _ rfl; (with_reducible repeat (first | refine blk_drewN ?_ _ | refine blk_drew ?_ | refine blk_alloc ?_ _)); refine blk_put (cs := #[.int .i64 t889, .int .u64 t890, .int .u64 t891, .int .u64 t892, .int .u64 0, .slice none 0 0]) ?_ 4 _ rfl; (with_reducible repeat (first | refine blk_drewN ?_ _ | refine blk_drew ?_ | refine blk_alloc ?_ _)); refine blk_put (cs := #[.int .i64 t889, .int .u64 t890, .int .u64 t891, .int .u64 0, .int .u64 0, .slice none 0 0]) ?_ 3 _ rfl; (with_reducible repeat (first | refine blk_drewN ?_ _ | refine blk_drew ?_ | refine blk_alloc ?_ _)); refine blk_put (cs := #[.int .i64 t889, .int .u64 t890, .int .u64 0, .int .u64 0, .int .u64 0, .slice none 0 0]) ?_ 2 _ rfl; (with_reducible repeat (first | refine blk_drewN ?_ _ | refine blk_drew ?_ | refine blk_alloc ?_ _)); refine blk_put (cs := #[.int .i64 t889, .int .u64 0, .int .u64 0, .int .u64 0, .int .u64 0, .slice none 0 0]) ?_ 1 _ rfl; (with_reducible repeat (first | refine blk_drewN ?_ _ | refine blk_drew ?_ | refine blk_alloc ?_ _)); refine blk_put (cs := #[.int .i64 0, .int .u64 0, .int .u64 0, .int .u64 0, .int .u64 0, .slice none 0 0]) ?_ 0 _ rfl; (with_reducible repeat (first | refine blk_drewN ?_ _ | refine blk_drew ?_ | refine blk_alloc ?_ _)); exact BK899.out⟩
            have n4_ : Aside0 (Below w.heap.size w ((((((w75.setCell ⟨gb899, 0, none⟩ (.int .i64 t889)).setCell ⟨gb899, 1, none⟩ (.int .u64 t890)).setCell ⟨gb899, 2, none⟩ (.int .u64 t891)).setCell ⟨gb899, 3, none⟩ (.int .u64 t892)).setCell ⟨gb899, 4, none⟩ (.int .u64 t893)).setCell ⟨gb899, 5, none⟩ (.slice Ao78 t894.length co78))) := ⟨by repeat (first | (with_reducible first | exact HB.out | apply below_alloc | apply pw_below_drewN | apply below_drew1 | refine below_set ?_ GE872.out | refine below_set ?_ GE899.out) | exact HB.out)⟩
            (try clear HO_873005)
            (try clear HO896)
            (try clear BK872)
            (try clear BK899)
            (try clear HB)
            generalize ((((((w75.setCell ⟨gb899, 0, none⟩ (.int .i64 t889)).setCell ⟨gb899, 1, none⟩ (.int .u64 t890)).setCell ⟨gb899, 2, none⟩ (.int .u64 t891)).setCell ⟨gb899, 3, none⟩ (.int .u64 t892)).setCell ⟨gb899, 4, none⟩ (.int .u64 t893)).setCell ⟨gb899, 5, none⟩ (.slice Ao78 t894.length co78)) = w79 at n0_ n1_ n2_ n3_ n4_ ⊢
            have HO_873005 := n0_
            have HO896 := n1_
            have BK872 := n2_
            have BK899 := n3_
            have HB := n4_
            clear n0_ n1_ n2_ n3_ n4_
            have n0_ := Aside0.mk (Kd.R_drew HO_873005.out)
            have n1_ := Aside0.mk (Kd.R_drew HO896.out)
            have n2_ := Aside0.mk (blk_drew BK872.out)
            have n3_ := Aside0.mk (blk_drew BK899.out)
            have n4_ := Aside0.mk (below_drew1 HB.out)
            clear HO_873005
            clear HO896
            clear BK872
            clear BK899
            clear HB
            have HO_873005 := n0_
            have HO896 := n1_
            have BK872 := n2_
            have BK899 := n3_
            have HB := n4_
            clear n0_ n1_ n2_ n3_ n4_
            refine start_ (n := 17) (S := fun w' => True) (ds := []) #[ff,ff,ff,ff,ff,ff,ff,ff,ff,ff,ff,ff,ff,ff,ff,ff,ff] (by kernel_rfl) rfl rfl trivial (fun hHeld => ?_); refine with_tabW scribelaw09_RegexSigns.tab20 scribelaw09_RegexSigns.bits20 (fun HT_ HW_ => ?_)
            generalize w79.drew = w80 at HO_873005 HO896 BK872 BK899 HB hHeld ⊢
            refine one_ (i := 0) (N := some 64) #[tt,ff,ff,ff,ff,ff,ff,ff,ff,ff,ff,ff,ff,ff,ff,ff,ff] rfl rfl (one_of HT_.out (by kernel_rfl)) (by decide) (fun K hK => ?_)
            refine goes_ Try.func11 (by kernel_rfl) rfl #[] (by rfl) rfl rfl (by (try simp only [List.map_toArray, List.map_cons, List.map_nil]); first | done | rfl | (simp only [List.length_drop, List.length_take]; rfl)) ?_
            with_reducible refine (scribelaw09_awake.calls kj11  true _ ?side1 A49.out).mono ?_
            (case side1 => exact TB.below hT (by repeat (first | (with_reducible first | exact HB.out | apply below_alloc | apply pw_below_drewN | apply below_drew1 | refine below_set ?_ GE872.out | refine below_set ?_ GE899.out) | exact HB.out)))
            rintro e w81 ⟨rfl, hb⟩
            refine ⟨_, rfl, ?_⟩
            have n0_ := Aside0.mk (Kd.R_below (by (with_reducible repeat (first | apply Kd.R_alloc | apply Kd.R_drewN | apply Kd.R_drew)); exact HO_873005.out) hb)
            have n1_ := Aside0.mk (Kd.R_below (by (with_reducible repeat (first | apply Kd.R_alloc | apply Kd.R_drewN | apply Kd.R_drew)); exact HO896.out) hb)
            have n2_ := Aside0.mk (blk_below (g := gb872) (o := .cells #[.int .i64 x873000_1, .int .u64 x873001_1, .int .u64 x873002_1, .int .u64 x873003_1, .int .u64 x873004_1, u873005] 29 (0, 0)) (by (with_reducible repeat (first | refine blk_drewN ?_ _ | refine blk_drew ?_ | refine blk_alloc ?_ _)); exact BK872.out) hb)
            have n3_ := Aside0.mk (blk_below (g := gb899) (o := .cells #[.int .i64 t889, .int .u64 t890, .int .u64 t891, .int .u64 t892, .int .u64 t893, .slice Ao78 t894.length co78] 29 (0, 0)) (by (with_reducible repeat (first | refine blk_drewN ?_ _ | refine blk_drew ?_ | refine blk_alloc ?_ _)); exact BK899.out) hb)
            have n4_ := Aside0.mk (below_step (by repeat (first | (with_reducible first | exact HB.out | apply below_alloc | apply pw_below_drewN | apply below_drew1 | refine below_set ?_ GE872.out | refine below_set ?_ GE899.out) | exact HB.out)) hb)
            clear HO_873005
            clear HO896
            clear BK872
            clear BK899
            clear HB
            have HO_873005 := n0_
            have HO896 := n1_
            have BK872 := n2_
            have BK899 := n3_
            have HB := n4_
            clear n0_ n1_ n2_ n3_ n4_
            (try clear hb)
            (try clear hb2)
            (try clear hk)
            (try clear hi)
            refine hK.out _ _ trivial (fun hHeld => ?_)
            clear hK K
            refine norm_ (a' := ?_) ?_ ?_
            rotate_left
            ·show Act.put _ (some 64) _ = _
             simp only [Act.put, setA, setZ, setS, i64_w, i32_w]
             rfl
            refine pure_ (i := 1) (N := some 65) (v := ?_) (a' := ?_) #[tt,tt,ff,ff,ff,ff,ff,ff,ff,ff,ff,ff,ff,ff,ff,ff,ff] rfl rfl (any_of HT_.out (by kernel_rfl)) (fun _ _ _ h => h) (Or.inl ⟨by rfl, ?_⟩) ?_ ?_
            rotate_left
            ·intro w'
             go_simp
             with_reducible rfl
            rotate_left
            ·simp only [Act.put, setA, setZ, setS, i64_w, i32_w]
             rfl
            refine pure_ (i := 2) (N := some 66) (v := ?_) (a' := ?_) #[tt,tt,tt,ff,ff,ff,ff,ff,ff,ff,ff,ff,ff,ff,ff,ff,ff] rfl rfl (any_of HT_.out (by kernel_rfl)) (fun _ _ _ h => h) (Or.inl ⟨by rfl, ?_⟩) ?_ ?_
            rotate_left
            ·intro w'
             go_simp
             with_reducible rfl
            rotate_left
            ·simp only [Act.put, setA, setZ, setS, i64_w, i32_w]
             rfl
            refine pure_ (i := 3) (N := some 67) (v := ?_) (a' := ?_) #[tt,tt,tt,tt,ff,ff,ff,ff,ff,ff,ff,ff,ff,ff,ff,ff,ff] rfl rfl (any_of HT_.out (by kernel_rfl)) (fun _ _ _ h => h) (Or.inl ⟨by rfl, ?_⟩) ?_ ?_
            rotate_left
            ·intro w'
             go_simp
             with_reducible rfl
            rotate_left
            ·simp only [Act.put, setA, setZ, setS, i64_w, i32_w]
             rfl
            refine pure_ (i := 4) (N := some 68) (v := ?_) (a' := ?_) #[tt,tt,tt,tt,tt,ff,ff,ff,ff,ff,ff,ff,ff,ff,ff,ff,ff] rfl rfl (any_of HT_.out (by kernel_rfl)) (fun _ _ _ h => h) (Or.inl ⟨by rfl, ?_⟩) ?_ ?_
            rotate_left
            ·intro w'
             go_simp
             with_reducible rfl
            rotate_left
            ·simp only [Act.put, setA, setZ, setS, i64_w, i32_w]
             rfl
            refine pure_ (i := 5) (N := some 69) (v := ?_) (a' := ?_) #[tt,tt,tt,tt,tt,tt,ff,ff,ff,ff,ff,ff,ff,ff,ff,ff,ff] rfl rfl (any_of HT_.out (by kernel_rfl)) (fun _ _ _ h => h) (Or.inl ⟨by rfl, ?_⟩) ?_ ?_
            rotate_left
            ·intro w'
             go_simp
             with_reducible rfl
            rotate_left
            ·simp only [Act.put, setA, setZ, setS, i64_w, i32_w]
             rfl
            refine pure_ (i := 6) (N := some 70) (v := ?_) (a' := ?_) #[tt,tt,tt,tt,tt,tt,tt,ff,ff,ff,ff,ff,ff,ff,ff,ff,ff] rfl rfl (any_of HT_.out (by kernel_rfl)) (fun _ _ _ h => h) (Or.inl ⟨by rfl, ?_⟩) ?_ ?_
            rotate_left
            ·intro w'
             go_simp
             with_reducible rfl
            rotate_left
            ·simp only [Act.put, setA, setZ, setS, i64_w, i32_w]
             rfl
            refine pure_ (i := 7) (N := some 71) (v := ?_) (a' := ?_) #[tt,tt,tt,tt,tt,tt,tt,tt,ff,ff,ff,ff,ff,ff,ff,ff,ff] rfl rfl (any_of HT_.out (by kernel_rfl)) (fun _ _ _ h => h) (Or.inl ⟨by rfl, ?_⟩) ?_ ?_
            rotate_left
            ·intro w'
             go_simp
             with_reducible rfl
            rotate_left
            ·simp only [Act.put, setA, setZ, setS, i64_w, i32_w]
             rfl
            refine pure_ (i := 8) (N := some 72) (v := undef) (a' := ?_) #[tt,tt,tt,tt,tt,tt,tt,tt,tt,ff,ff,ff,ff,ff,ff,ff,ff] rfl rfl (any_of HT_.out (by kernel_rfl)) (fun _ _ _ h => h) (Or.inr ⟨by rfl, rfl⟩) ?_ ?_
            rotate_left
            ·simp only [Act.put, setA, setZ, setS, i64_w, i32_w]
             rfl
            refine pure_ (i := 9) (N := some 73) (v := undef) (a' := ?_) #[tt,tt,tt,tt,tt,tt,tt,tt,tt,tt,ff,ff,ff,ff,ff,ff,ff] rfl rfl (any_of HT_.out (by kernel_rfl)) (fun _ _ _ h => h) (Or.inr ⟨by rfl, rfl⟩) ?_ ?_
            rotate_left
            ·simp only [Act.put, setA, setZ, setS, i64_w, i32_w]
             rfl
            refine pure_ (i := 10) (N := some 74) (v := undef) (a' := ?_) #[tt,tt,tt,tt,tt,tt,tt,tt,tt,tt,tt,ff,ff,ff,ff,ff,ff] rfl rfl (any_of HT_.out (by kernel_rfl)) (fun _ _ _ h => h) (Or.inr ⟨by rfl, rfl⟩) ?_ ?_
            rotate_left
            ·simp only [Act.put, setA, setZ, setS, i64_w, i32_w]
             rfl
            refine pure_ (i := 11) (N := some 75) (v := undef) (a' := ?_) #[tt,tt,tt,tt,tt,tt,tt,tt,tt,tt,tt,tt,ff,ff,ff,ff,ff] rfl rfl (any_of HT_.out (by kernel_rfl)) (fun _ _ _ h => h) (Or.inr ⟨by rfl, rfl⟩) ?_ ?_
            rotate_left
            ·simp only [Act.put, setA, setZ, setS, i64_w, i32_w]
             rfl
            refine pure_ (i := 12) (N := some 76) (v := undef) (a' := ?_) #[tt,tt,tt,tt,tt,tt,tt,tt,tt,tt,tt,tt,tt,ff,ff,ff,ff] rfl rfl (any_of HT_.out (by kernel_rfl)) (fun _ _ _ h => h) (Or.inr ⟨by rfl, rfl⟩) ?_ ?_
            rotate_left
            ·simp only [Act.put, setA, setZ, setS, i64_w, i32_w]
             rfl
            refine pure_ (i := 13) (N := some 77) (v := ?_) (a' := ?_) #[tt,tt,tt,tt,tt,tt,tt,tt,tt,tt,tt,tt,tt,tt,ff,ff,ff] rfl rfl (any_of HT_.out (by kernel_rfl)) (fun _ _ _ h => h) (Or.inl ⟨by rfl, ?_⟩) ?_ ?_
            rotate_left
            ·intro w'
             go_simp
             with_reducible rfl
            rotate_left
            ·simp only [Act.put, setA, setZ, setS, i64_w, i32_w]
             rfl
            refine pure_ (i := 14) (N := some 78) (v := ?_) (a' := ?_) #[tt,tt,tt,tt,tt,tt,tt,tt,tt,tt,tt,tt,tt,tt,tt,ff,ff] rfl rfl (any_of HT_.out (by kernel_rfl)) (fun _ _ _ h => h) (Or.inl ⟨by rfl, ?_⟩) ?_ ?_
            rotate_left
            ·intro w'
             go_simp
             with_reducible rfl
            rotate_left
            ·simp only [Act.put, setA, setZ, setS, i64_w, i32_w]
             rfl
            refine pure_ (i := 15) (N := some 79) (v := ?_) (a' := ?_) #[tt,tt,tt,tt,tt,tt,tt,tt,tt,tt,tt,tt,tt,tt,tt,tt,ff] rfl rfl (any_of HT_.out (by kernel_rfl)) (fun _ _ _ h => h) (Or.inl ⟨by rfl, ?_⟩) ?_ ?_
            rotate_left
            ·intro w'
             go_simp
             with_reducible rfl
            rotate_left
            ·simp only [Act.put, setA, setZ, setS, i64_w, i32_w]
             rfl
            refine pure_ (i := 16) (N := some 4) (v := ?_) (a' := ?_) #[tt,tt,tt,tt,tt,tt,tt,tt,tt,tt,tt,tt,tt,tt,tt,tt,tt] rfl rfl (any_of HT_.out (by kernel_rfl)) (fun _ _ _ h => h) (Or.inl ⟨by rfl, ?_⟩) ?_ ?_
            rotate_left
            ·intro w'
             go_simp
             with_reducible rfl
            rotate_left
            ·simp only [Act.put, setA, setZ, setS, i64_w, i32_w]
             rfl
            refine done_ (done_of HT_.out (by kernel_rfl)) ?_
            try go_wp2
            go_ret
            exact ⟨by first | rfl | (simp [errW_none, errW_some] <;> rfl) | (simp [errW_none, errW_some] <;> first | rfl | exact isEmpty_bne _) | (simp [*, errW_none, errW_some] <;> rfl), by repeat (first | (with_reducible first | exact HB.out | apply below_alloc | apply pw_below_drewN | apply below_drew1 | refine below_set ?_ GE872.out | refine below_set ?_ GE899.out) | exact HB.out)⟩
         ·replace c50 := Bool.eq_false_iff.mpr c50
          subst c50
          have H1 : (some false) = some r := by rw [if_neg (show ¬ (false = true) by decide)] at H; exact H
          clear H
          have H := H1
          clear H1
          obtain rfl := Option.some.inj H
          try go_wp2_with (first | ((with_reducible refine gate_callee (f := 10) rfl ?_); refine goesL_ (some 60) rfl rfl Try.func10 (by kernel_rfl) rfl #[.string x8_1] rfl (by (try simp only [List.map_toArray, List.map_cons, List.map_nil]); first | done | rfl | (simp only [List.length_drop, List.length_take]; rfl)) ?_; (with_reducible refine (regex_Parse.calls kj11 x8_1 t889 t890 t891 t892 t893 t894 t897 t898 _ ?side1 A48.out).mono ?_); (case side1 => exact TB.below hT (by repeat (first | (with_reducible first | exact HB.out | apply below_alloc | apply pw_below_drewN | apply below_drew1 | refine below_set ?_ GE872.out) | exact HB.out))); rintro e w82 ⟨v895, rfl, ho0, hb⟩; refine ⟨_, rfl, ?_⟩; have n0_ := Aside0.mk (Kd.R_elder' (by (with_reducible repeat (first | apply Kd.R_alloc | apply Kd.R_drewN | apply Kd.R_drew)); exact HO_873005.out) (Kd.R_base ho0) hb); have n1_ := Aside0.mk (Kd.R_lower (Kd.R_newB (Kd.R_new' ho0 (Kd.R_lt (by (with_reducible repeat (first | apply Kd.R_alloc | apply Kd.R_drewN | apply Kd.R_drew)); exact HO_873005.out))) (g := gb872) (o := .cells #[.int .i64 x873000_1, .int .u64 x873001_1, .int .u64 x873002_1, .int .u64 x873003_1, .int .u64 x873004_1, u873005] 29 (0, 0)) (by (with_reducible repeat (first | refine blk_drewN ?_ _ | refine blk_drew ?_ | refine blk_alloc ?_ _)); exact BK872.out)) (below_size (by repeat (first | (with_reducible first | exact HB.out | apply below_alloc | apply pw_below_drewN | apply below_drew1 | refine below_set ?_ GE872.out) | exact HB.out)))); have n2_ := Aside0.mk (blk_below (g := gb872) (o := .cells #[.int .i64 x873000_1, .int .u64 x873001_1, .int .u64 x873002_1, .int .u64 x873003_1, .int .u64 x873004_1, u873005] 29 (0, 0)) (by (with_reducible repeat (first | refine blk_drewN ?_ _ | refine blk_drew ?_ | refine blk_alloc ?_ _)); exact BK872.out) hb); have n3_ := Aside0.mk (below_step (by repeat (first | (with_reducible first | exact HB.out | apply below_alloc | apply pw_below_drewN | apply below_drew1 | refine below_set ?_ GE872.out) | exact HB.out)) hb); clear HO_873005; clear BK872; clear HB; have HO_873005 := n0_; have HO896 := n1_; have BK872 := n2_; have HB := n3_; clear n0_ n1_ n2_ n3_; (try clear hb); (try clear hb2); (try clear hk); (try clear hi); (try clear ho0)) | ((with_reducible refine gate_dst (N := 12) rfl ?_); refine box_event ?hg (N := 12) ?hd (cs := #[.int .i64 0, .int .u64 0, .int .u64 0, .int .u64 0, .int .u64 0, .slice none 0 0]) (t := 29) ?hr ?_; (case hd => rfl); (case hg => rfl); (case hr => first | (go_simp; done) | (go_simp; rfl)); intro gb899 hg w83 hbox hb; have n0_ := Aside0.mk (Kd.R_below (Kd.R_elderB (by (with_reducible repeat (first | apply Kd.R_alloc | apply Kd.R_drewN | apply Kd.R_drew)); exact HO_873005.out) gb899 (Nat.le_of_eq hg.symm)) hb); have n1_ := Aside0.mk (Kd.R_below (Kd.R_elderB (by (with_reducible repeat (first | apply Kd.R_alloc | apply Kd.R_drewN | apply Kd.R_drew)); exact HO896.out) gb899 (Nat.le_of_eq hg.symm)) hb); have n2_ := Aside0.mk (blk_below (g := gb872) (o := .cells #[.int .i64 x873000_1, .int .u64 x873001_1, .int .u64 x873002_1, .int .u64 x873003_1, .int .u64 x873004_1, u873005] 29 (0, 0)) (by (with_reducible repeat (first | refine blk_drewN ?_ _ | refine blk_drew ?_ | refine blk_alloc ?_ _)); exact BK872.out) hb); have n3_ := Aside0.mk (below_step (by repeat (first | (with_reducible first | exact HB.out | apply below_alloc | apply pw_below_drewN | apply below_drew1 | refine below_set ?_ GE872.out) | exact HB.out)) hb); have n4_ := Aside0.mk (hbox); have n5_ := Aside0.mk ((by rw [hg]; exact (below_size (by repeat (first | (with_reducible first | exact HB.out | apply below_alloc | apply pw_below_drewN | apply below_drew1 | refine below_set ?_ GE872.out) | exact HB.out))) : w.heap.size ≤ gb899)); have n6_ := Aside0.mk ((by rw [hg]; exact (below_size (by repeat (first | (with_reducible first | exact HB.out | apply below_alloc | apply pw_below_drewN | apply below_drew1 | refine below_set ?_ GE872.out) | exact HB.out))) : w.heap.size ≤ gb899)); have n7_ := Aside0.mk ((by rw [hg]; exact Nat.ne_of_lt (blk_lt (g := gb872) (o := .cells #[.int .i64 x873000_1, .int .u64 x873001_1, .int .u64 x873002_1, .int .u64 x873003_1, .int .u64 x873004_1, u873005] 29 (0, 0)) (by (with_reducible repeat (first | refine blk_drewN ?_ _ | refine blk_drew ?_ | refine blk_alloc ?_ _)); exact BK872.out)) : gb872 ≠ gb899)); have n8_ := Aside0.mk ((by rw [hg]; exact Nat.ne_of_gt (blk_lt (g := gb872) (o := .cells #[.int .i64 x873000_1, .int .u64 x873001_1, .int .u64 x873002_1, .int .u64 x873003_1, .int .u64 x873004_1, u873005] 29 (0, 0)) (by (with_reducible repeat (first | refine blk_drewN ?_ _ | refine blk_drew ?_ | refine blk_alloc ?_ _)); exact BK872.out)) : gb899 ≠ gb872)); clear HO_873005; clear HO896; clear BK872; clear HB; have HO_873005 := n0_; have HO896 := n1_; have BK872 := n2_; have HB := n3_; have BK899 := n4_; have GW899 := n5_; have GE899 := n6_; have NB872_899 := n7_; have NB899_872 := n8_; clear n0_ n1_ n2_ n3_ n4_ n5_ n6_ n7_ n8_; clear hb hbox hg; have hnb84 := NB899_872.out; have hnc84 := NB872_899.out; have hcz85_0 : w83.cell? ⟨gb899, 0, none⟩ = some (.int .i64 0) := (blk_cell BK899.out 0).trans rfl; have hcz85_1 : w83.cell? ⟨gb899, 1, none⟩ = some (.int .u64 0) := (blk_cell BK899.out 1).trans rfl; have hcz85_2 : w83.cell? ⟨gb899, 2, none⟩ = some (.int .u64 0) := (blk_cell BK899.out 2).trans rfl; have hcz85_3 : w83.cell? ⟨gb899, 3, none⟩ = some (.int .u64 0) := (blk_cell BK899.out 3).trans rfl; have hcz85_4 : w83.cell? ⟨gb899, 4, none⟩ = some (.int .u64 0) := (blk_cell BK899.out 4).trans rfl; have hcz85_5 : w83.cell? ⟨gb899, 5, none⟩ = some (.slice none 0 0) := (blk_cell BK899.out 5).trans rfl; have hfz85_0 := blk_frozen BK899.out 0; have hfz85_1 := blk_frozen BK899.out 1; have hfz85_2 := blk_frozen BK899.out 2; have hfz85_3 := blk_frozen BK899.out 3; have hfz85_4 := blk_frozen BK899.out 4; have hfz85_5 := blk_frozen BK899.out 5; obtain ⟨Ao86, co86, eo86⟩ := Kd.R_slice HO896.out; subst eo86))
          have n0_ : Aside0 (Kd.R k29 29 ((((((w83.setCell ⟨gb899, 0, none⟩ (.int .i64 t889)).setCell ⟨gb899, 1, none⟩ (.int .u64 t890)).setCell ⟨gb899, 2, none⟩ (.int .u64 t891)).setCell ⟨gb899, 3, none⟩ (.int .u64 t892)).setCell ⟨gb899, 4, none⟩ (.int .u64 t893)).setCell ⟨gb899, 5, none⟩ (.slice Ao86 t894.length co86)) w.heap.size (fun k_ => some k_ ≠ (.slice Ao86 t894.length co86 : Value).ownBlock ∧ k_ ≠ gb872 ∧ k_ ≠ gb899) u873005 x873005_1) := ⟨by (with_reducible repeat (first | apply Kd.R_alloc | apply Kd.R_drewN | apply Kd.R_drew)); exact Kd.R_mono (Kd.R_far (p := ⟨gb899, 5, none⟩) (Kd.R_far (p := ⟨gb899, 4, none⟩) (Kd.R_far (p := ⟨gb899, 3, none⟩) (Kd.R_far (p := ⟨gb899, 2, none⟩) (Kd.R_far (p := ⟨gb899, 1, none⟩) (Kd.R_far (p := ⟨gb899, 0, none⟩) (Kd.R_mono HO_873005.out (fun k_ hk => (⟨hk, hk.2⟩ : _ ∧ k_ ≠ gb899))) (fun _ hk => hk.2) (.int .i64 t889)) (fun _ hk => hk.2) (.int .u64 t890)) (fun _ hk => hk.2) (.int .u64 t891)) (fun _ hk => hk.2) (.int .u64 t892)) (fun _ hk => hk.2) (.int .u64 t893)) (fun _ hk => hk.2) (.slice Ao86 t894.length co86)) (fun _ hk => ⟨hk.1.1.2, ⟨hk.1.1.1, hk.1.2⟩⟩)⟩
          have n1_ : Aside0 (Kd.R k29 29 ((((((w83.setCell ⟨gb899, 0, none⟩ (.int .i64 t889)).setCell ⟨gb899, 1, none⟩ (.int .u64 t890)).setCell ⟨gb899, 2, none⟩ (.int .u64 t891)).setCell ⟨gb899, 3, none⟩ (.int .u64 t892)).setCell ⟨gb899, 4, none⟩ (.int .u64 t893)).setCell ⟨gb899, 5, none⟩ (.slice Ao86 t894.length co86)) w.heap.size (fun k_ => some k_ ≠ (u873005 : Value).ownBlock ∧ k_ ≠ gb872 ∧ k_ ≠ gb899) (.slice Ao86 t894.length co86) t894) := ⟨by (with_reducible repeat (first | apply Kd.R_alloc | apply Kd.R_drewN | apply Kd.R_drew)); exact Kd.R_mono (Kd.R_far (p := ⟨gb899, 5, none⟩) (Kd.R_far (p := ⟨gb899, 4, none⟩) (Kd.R_far (p := ⟨gb899, 3, none⟩) (Kd.R_far (p := ⟨gb899, 2, none⟩) (Kd.R_far (p := ⟨gb899, 1, none⟩) (Kd.R_far (p := ⟨gb899, 0, none⟩) (Kd.R_mono HO896.out (fun k_ hk => (⟨hk, hk.2⟩ : _ ∧ k_ ≠ gb899))) (fun _ hk => hk.2) (.int .i64 t889)) (fun _ hk => hk.2) (.int .u64 t890)) (fun _ hk => hk.2) (.int .u64 t891)) (fun _ hk => hk.2) (.int .u64 t892)) (fun _ hk => hk.2) (.int .u64 t893)) (fun _ hk => hk.2) (.slice Ao86 t894.length co86)) (fun _ hk => ⟨hk.1.1.1.2, ⟨hk.1.1.2, hk.1.2⟩⟩)⟩
          have n2_ : Aside0 (((((((w83.setCell ⟨gb899, 0, none⟩ (.int .i64 t889)).setCell ⟨gb899, 1, none⟩ (.int .u64 t890)).setCell ⟨gb899, 2, none⟩ (.int .u64 t891)).setCell ⟨gb899, 3, none⟩ (.int .u64 t892)).setCell ⟨gb899, 4, none⟩ (.int .u64 t893)).setCell ⟨gb899, 5, none⟩ (.slice Ao86 t894.length co86)).heap[gb872]? = some (.cells #[.int .i64 x873000_1, .int .u64 x873001_1, .int .u64 x873002_1, .int .u64 x873003_1, .int .u64 x873004_1, u873005] 29 (0, 0))) := ⟨by (with_reducible repeat (first | refine blk_drewN ?_ _ | refine blk_drew ?_ | refine blk_alloc ?_ _)); refine blk_far ?_ NB872_899.out _; (with_reducible repeat (first | refine blk_drewN ?_ _ | refine blk_drew ?_ | refine blk_alloc ?_ _)); refine blk_far ?_ NB872_899.out _; (with_reducible repeat (first | refine blk_drewN ?_ _ | refine blk_drew ?_ | refine blk_alloc ?_ _)); refine blk_far ?_ NB872_899.out _; (with_reducible repeat (first | refine blk_drewN ?_ _ | refine blk_drew ?_ | refine blk_alloc ?_ _)); refine blk_far ?_ NB872_899.out _; (with_reducible repeat (first | refine blk_drewN ?_ _ | refine blk_drew ?_ | refine blk_alloc ?_ _)); refine blk_far ?_ NB872_899.out _; (with_reducible repeat (first | refine blk_drewN ?_ _ | refine blk_drew ?_ | refine blk_alloc ?_ _)); refine blk_far ?_ NB872_899.out _; (with_reducible repeat (first | refine blk_drewN ?_ _ | refine blk_drew ?_ | refine blk_alloc ?_ _)); exact BK872.out⟩
          have n3_ : Aside0 (((((((w83.setCell ⟨gb899, 0, none⟩ (.int .i64 t889)).setCell ⟨gb899, 1, none⟩ (.int .u64 t890)).setCell ⟨gb899, 2, none⟩ (.int .u64 t891)).setCell ⟨gb899, 3, none⟩ (.int .u64 t892)).setCell ⟨gb899, 4, none⟩ (.int .u64 t893)).setCell ⟨gb899, 5, none⟩ (.slice Ao86 t894.length co86)).heap[gb899]? = some (.cells #[.int .i64 t889, .int .u64 t890, .int .u64 t891, .int .u64 t892, .int .u64 t893, .slice Ao86 t894.length co86] 29 (0, 0))) := ⟨by (with_reducible repeat (first | refine blk_drewN ?_ _ | refine blk_drew ?_ | refine blk_alloc ?_ _)); refine blk_put (cs := #[.int .i64 t889, .int .u64 t890, .int .u64 t891, .int .u64 t892, .int .u64 t893, .slice none 0 0]) ?_ 5 _ rfl; (with_reducible repeat (first | refine blk_drewN ?_ _ | refine blk_drew ?_ | refine blk_alloc ?_ _)); refine blk_put (cs := #[.int .i64 t889, .int .u64 t890, .int .u64 t891, .int .u64 t892, .int .u64 0, .slice none 0 0]) ?_ 4 _ rfl; (with_reducible repeat (first | refine blk_drewN ?_ _ | refine blk_drew ?_ | refine blk_alloc ?_ _)); refine blk_put (cs := #[.int .i64 t889, .int .u64 t890, .int .u64 t891, .int .u64 0, .int .u64 0, .slice none 0 0]) ?_ 3 _ rfl; (with_reducible repeat (first | refine blk_drewN ?_ _ | refine blk_drew ?_ | refine blk_alloc ?_ _)); refine blk_put (cs := #[.int .i64 t889, .int .u64 t890, .int .u64 0, .int .u64 0, .int .u64 0, .slice none 0 0]) ?_ 2 _ rfl; (with_reducible repeat (first | refine blk_drewN ?_ _ | refine blk_drew ?_ | refine blk_alloc ?_ _)); refine blk_put (cs := #[.int .i64 t889, .int .u64 0, .int .u64 0, .int .u64 0, .int .u64 0, .slice none 0 0]) ?_ 1 _ rfl; (with_reducible repeat (first | refine blk_drewN ?_ _ | refine blk_drew ?_ | refine blk_alloc ?_ _)); refine blk_put (cs := #[.int .i64 0, .int .u64 0, .int .u64 0, .int .u64 0, .int .u64 0, .slice none 0 0]) ?_ 0 _ rfl; (with_reducible repeat (first | refine blk_drewN ?_ _ | refine blk_drew ?_ | refine blk_alloc ?_ _)); exact BK899.out⟩
          have n4_ : Aside0 (Below w.heap.size w ((((((w83.setCell ⟨gb899, 0, none⟩ (.int .i64 t889)).setCell ⟨gb899, 1, none⟩ (.int .u64 t890)).setCell ⟨gb899, 2, none⟩ (.int .u64 t891)).setCell ⟨gb899, 3, none⟩ (.int .u64 t892)).setCell ⟨gb899, 4, none⟩ (.int .u64 t893)).setCell ⟨gb899, 5, none⟩ (.slice Ao86 t894.length co86))) := ⟨by repeat (first | (with_reducible first | exact HB.out | apply below_alloc | apply pw_below_drewN | apply below_drew1 | refine below_set ?_ GE872.out | refine below_set ?_ GE899.out) | exact HB.out)⟩
          (try clear HO_873005)
          (try clear HO896)
          (try clear BK872)
          (try clear BK899)
          (try clear HB)
          generalize ((((((w83.setCell ⟨gb899, 0, none⟩ (.int .i64 t889)).setCell ⟨gb899, 1, none⟩ (.int .u64 t890)).setCell ⟨gb899, 2, none⟩ (.int .u64 t891)).setCell ⟨gb899, 3, none⟩ (.int .u64 t892)).setCell ⟨gb899, 4, none⟩ (.int .u64 t893)).setCell ⟨gb899, 5, none⟩ (.slice Ao86 t894.length co86)) = w87 at n0_ n1_ n2_ n3_ n4_ ⊢
          have HO_873005 := n0_
          have HO896 := n1_
          have BK872 := n2_
          have BK899 := n3_
          have HB := n4_
          clear n0_ n1_ n2_ n3_ n4_
          have n0_ := Aside0.mk (Kd.R_drew HO_873005.out)
          have n1_ := Aside0.mk (Kd.R_drew HO896.out)
          have n2_ := Aside0.mk (blk_drew BK872.out)
          have n3_ := Aside0.mk (blk_drew BK899.out)
          have n4_ := Aside0.mk (below_drew1 HB.out)
          clear HO_873005
          clear HO896
          clear BK872
          clear BK899
          clear HB
          have HO_873005 := n0_
          have HO896 := n1_
          have BK872 := n2_
          have BK899 := n3_
          have HB := n4_
          clear n0_ n1_ n2_ n3_ n4_
          refine start_ (n := 17) (S := fun w' => True) (ds := []) #[ff,ff,ff,ff,ff,ff,ff,ff,ff,ff,ff,ff,ff,ff,ff,ff,ff] (by kernel_rfl) rfl rfl trivial (fun hHeld => ?_); refine with_tabW scribelaw09_RegexSigns.tab20 scribelaw09_RegexSigns.bits20 (fun HT_ HW_ => ?_)
          generalize w87.drew = w88 at HO_873005 HO896 BK872 BK899 HB hHeld ⊢
          refine one_ (i := 0) (N := some 64) #[tt,ff,ff,ff,ff,ff,ff,ff,ff,ff,ff,ff,ff,ff,ff,ff,ff] rfl rfl (one_of HT_.out (by kernel_rfl)) (by decide) (fun K hK => ?_)
          refine goes_ Try.func11 (by kernel_rfl) rfl #[] (by rfl) rfl rfl (by (try simp only [List.map_toArray, List.map_cons, List.map_nil]); first | done | rfl | (simp only [List.length_drop, List.length_take]; rfl)) ?_
          with_reducible refine (scribelaw09_awake.calls kj11  false _ ?side1 A49.out).mono ?_
          (case side1 => exact TB.below hT (by repeat (first | (with_reducible first | exact HB.out | apply below_alloc | apply pw_below_drewN | apply below_drew1 | refine below_set ?_ GE872.out | refine below_set ?_ GE899.out) | exact HB.out)))
          rintro e w89 ⟨rfl, hb⟩
          refine ⟨_, rfl, ?_⟩
          have n0_ := Aside0.mk (Kd.R_below (by (with_reducible repeat (first | apply Kd.R_alloc | apply Kd.R_drewN | apply Kd.R_drew)); exact HO_873005.out) hb)
          have n1_ := Aside0.mk (Kd.R_below (by (with_reducible repeat (first | apply Kd.R_alloc | apply Kd.R_drewN | apply Kd.R_drew)); exact HO896.out) hb)
          have n2_ := Aside0.mk (blk_below (g := gb872) (o := .cells #[.int .i64 x873000_1, .int .u64 x873001_1, .int .u64 x873002_1, .int .u64 x873003_1, .int .u64 x873004_1, u873005] 29 (0, 0)) (by (with_reducible repeat (first | refine blk_drewN ?_ _ | refine blk_drew ?_ | refine blk_alloc ?_ _)); exact BK872.out) hb)
          have n3_ := Aside0.mk (blk_below (g := gb899) (o := .cells #[.int .i64 t889, .int .u64 t890, .int .u64 t891, .int .u64 t892, .int .u64 t893, .slice Ao86 t894.length co86] 29 (0, 0)) (by (with_reducible repeat (first | refine blk_drewN ?_ _ | refine blk_drew ?_ | refine blk_alloc ?_ _)); exact BK899.out) hb)
          have n4_ := Aside0.mk (below_step (by repeat (first | (with_reducible first | exact HB.out | apply below_alloc | apply pw_below_drewN | apply below_drew1 | refine below_set ?_ GE872.out | refine below_set ?_ GE899.out) | exact HB.out)) hb)
          clear HO_873005
          clear HO896
          clear BK872
          clear BK899
          clear HB
          have HO_873005 := n0_
          have HO896 := n1_
          have BK872 := n2_
          have BK899 := n3_
          have HB := n4_
          clear n0_ n1_ n2_ n3_ n4_
          (try clear hb)
          (try clear hb2)
          (try clear hk)
          (try clear hi)
          refine hK.out _ _ trivial (fun hHeld => ?_)
          clear hK K
          refine norm_ (a' := ?_) ?_ ?_
          rotate_left
          ·show Act.put _ (some 64) _ = _
           simp only [Act.put, setA, setZ, setS, i64_w, i32_w]
           rfl
          refine pure_ (i := 1) (N := some 65) (v := ?_) (a' := ?_) #[tt,tt,ff,ff,ff,ff,ff,ff,ff,ff,ff,ff,ff,ff,ff,ff,ff] rfl rfl (any_of HT_.out (by kernel_rfl)) (fun _ _ _ h => h) (Or.inl ⟨by rfl, ?_⟩) ?_ ?_
          rotate_left
          ·intro w'
           go_simp
           with_reducible rfl
          rotate_left
          ·simp only [Act.put, setA, setZ, setS, i64_w, i32_w]
           rfl
          refine pure_ (i := 2) (N := some 66) (v := undef) (a' := ?_) #[tt,tt,tt,ff,ff,ff,ff,ff,ff,ff,ff,ff,ff,ff,ff,ff,ff] rfl rfl (any_of HT_.out (by kernel_rfl)) (fun _ _ _ h => h) (Or.inr ⟨by rfl, rfl⟩) ?_ ?_
          rotate_left
          ·simp only [Act.put, setA, setZ, setS, i64_w, i32_w]
           rfl
          refine pure_ (i := 3) (N := some 67) (v := undef) (a' := ?_) #[tt,tt,tt,tt,ff,ff,ff,ff,ff,ff,ff,ff,ff,ff,ff,ff,ff] rfl rfl (any_of HT_.out (by kernel_rfl)) (fun _ _ _ h => h) (Or.inr ⟨by rfl, rfl⟩) ?_ ?_
          rotate_left
          ·simp only [Act.put, setA, setZ, setS, i64_w, i32_w]
           rfl
          refine pure_ (i := 4) (N := some 68) (v := undef) (a' := ?_) #[tt,tt,tt,tt,tt,ff,ff,ff,ff,ff,ff,ff,ff,ff,ff,ff,ff] rfl rfl (any_of HT_.out (by kernel_rfl)) (fun _ _ _ h => h) (Or.inr ⟨by rfl, rfl⟩) ?_ ?_
          rotate_left
          ·simp only [Act.put, setA, setZ, setS, i64_w, i32_w]
           rfl
          refine pure_ (i := 5) (N := some 69) (v := undef) (a' := ?_) #[tt,tt,tt,tt,tt,tt,ff,ff,ff,ff,ff,ff,ff,ff,ff,ff,ff] rfl rfl (any_of HT_.out (by kernel_rfl)) (fun _ _ _ h => h) (Or.inr ⟨by rfl, rfl⟩) ?_ ?_
          rotate_left
          ·simp only [Act.put, setA, setZ, setS, i64_w, i32_w]
           rfl
          refine pure_ (i := 6) (N := some 70) (v := undef) (a' := ?_) #[tt,tt,tt,tt,tt,tt,tt,ff,ff,ff,ff,ff,ff,ff,ff,ff,ff] rfl rfl (any_of HT_.out (by kernel_rfl)) (fun _ _ _ h => h) (Or.inr ⟨by rfl, rfl⟩) ?_ ?_
          rotate_left
          ·simp only [Act.put, setA, setZ, setS, i64_w, i32_w]
           rfl
          refine pure_ (i := 7) (N := some 71) (v := undef) (a' := ?_) #[tt,tt,tt,tt,tt,tt,tt,tt,ff,ff,ff,ff,ff,ff,ff,ff,ff] rfl rfl (any_of HT_.out (by kernel_rfl)) (fun _ _ _ h => h) (Or.inr ⟨by rfl, rfl⟩) ?_ ?_
          rotate_left
          ·simp only [Act.put, setA, setZ, setS, i64_w, i32_w]
           rfl
          refine pure_ (i := 8) (N := some 72) (v := undef) (a' := ?_) #[tt,tt,tt,tt,tt,tt,tt,tt,tt,ff,ff,ff,ff,ff,ff,ff,ff] rfl rfl (any_of HT_.out (by kernel_rfl)) (fun _ _ _ h => h) (Or.inr ⟨by rfl, rfl⟩) ?_ ?_
          rotate_left
          ·simp only [Act.put, setA, setZ, setS, i64_w, i32_w]
           rfl
          refine pure_ (i := 9) (N := some 73) (v := undef) (a' := ?_) #[tt,tt,tt,tt,tt,tt,tt,tt,tt,tt,ff,ff,ff,ff,ff,ff,ff] rfl rfl (any_of HT_.out (by kernel_rfl)) (fun _ _ _ h => h) (Or.inr ⟨by rfl, rfl⟩) ?_ ?_
          rotate_left
          ·simp only [Act.put, setA, setZ, setS, i64_w, i32_w]
           rfl
          refine pure_ (i := 10) (N := some 74) (v := undef) (a' := ?_) #[tt,tt,tt,tt,tt,tt,tt,tt,tt,tt,tt,ff,ff,ff,ff,ff,ff] rfl rfl (any_of HT_.out (by kernel_rfl)) (fun _ _ _ h => h) (Or.inr ⟨by rfl, rfl⟩) ?_ ?_
          rotate_left
          ·simp only [Act.put, setA, setZ, setS, i64_w, i32_w]
           rfl
          refine pure_ (i := 11) (N := some 75) (v := undef) (a' := ?_) #[tt,tt,tt,tt,tt,tt,tt,tt,tt,tt,tt,tt,ff,ff,ff,ff,ff] rfl rfl (any_of HT_.out (by kernel_rfl)) (fun _ _ _ h => h) (Or.inr ⟨by rfl, rfl⟩) ?_ ?_
          rotate_left
          ·simp only [Act.put, setA, setZ, setS, i64_w, i32_w]
           rfl
          refine pure_ (i := 12) (N := some 76) (v := undef) (a' := ?_) #[tt,tt,tt,tt,tt,tt,tt,tt,tt,tt,tt,tt,tt,ff,ff,ff,ff] rfl rfl (any_of HT_.out (by kernel_rfl)) (fun _ _ _ h => h) (Or.inr ⟨by rfl, rfl⟩) ?_ ?_
          rotate_left
          ·simp only [Act.put, setA, setZ, setS, i64_w, i32_w]
           rfl
          refine pure_ (i := 13) (N := some 77) (v := undef) (a' := ?_) #[tt,tt,tt,tt,tt,tt,tt,tt,tt,tt,tt,tt,tt,tt,ff,ff,ff] rfl rfl (any_of HT_.out (by kernel_rfl)) (fun _ _ _ h => h) (Or.inr ⟨by rfl, rfl⟩) ?_ ?_
          rotate_left
          ·simp only [Act.put, setA, setZ, setS, i64_w, i32_w]
           rfl
          refine pure_ (i := 14) (N := some 78) (v := undef) (a' := ?_) #[tt,tt,tt,tt,tt,tt,tt,tt,tt,tt,tt,tt,tt,tt,tt,ff,ff] rfl rfl (any_of HT_.out (by kernel_rfl)) (fun _ _ _ h => h) (Or.inr ⟨by rfl, rfl⟩) ?_ ?_
          rotate_left
          ·simp only [Act.put, setA, setZ, setS, i64_w, i32_w]
           rfl
          refine pure_ (i := 15) (N := some 79) (v := ?_) (a' := ?_) #[tt,tt,tt,tt,tt,tt,tt,tt,tt,tt,tt,tt,tt,tt,tt,tt,ff] rfl rfl (any_of HT_.out (by kernel_rfl)) (fun _ _ _ h => h) (Or.inl ⟨by rfl, ?_⟩) ?_ ?_
          rotate_left
          ·intro w'
           go_simp
           with_reducible rfl
          rotate_left
          ·simp only [Act.put, setA, setZ, setS, i64_w, i32_w]
           rfl
          refine pure_ (i := 16) (N := some 4) (v := ?_) (a' := ?_) #[tt,tt,tt,tt,tt,tt,tt,tt,tt,tt,tt,tt,tt,tt,tt,tt,tt] rfl rfl (any_of HT_.out (by kernel_rfl)) (fun _ _ _ h => h) (Or.inl ⟨by rfl, ?_⟩) ?_ ?_
          rotate_left
          ·intro w'
           go_simp
           with_reducible rfl
          rotate_left
          ·simp only [Act.put, setA, setZ, setS, i64_w, i32_w]
           rfl
          refine done_ (done_of HT_.out (by kernel_rfl)) ?_
          try go_wp2
          go_ret
          exact ⟨by first | rfl | (simp [errW_none, errW_some] <;> rfl) | (simp [errW_none, errW_some] <;> first | rfl | exact isEmpty_bne _) | (simp [*, errW_none, errW_some] <;> rfl), by repeat (first | (with_reducible first | exact HB.out | apply below_alloc | apply pw_below_drewN | apply below_drew1 | refine below_set ?_ GE872.out | refine below_set ?_ GE899.out) | exact HB.out)⟩
   ·rw [if_neg c7] at H
    exact absurd H (by simp)
  ·rw [if_neg c6] at H
   exact absurd H (by simp)
 ·rw [if_neg c5] at H
  have c5b0 : (t871 == 0) = false := beq_eq_false_iff_ne.mpr c5
  have c5b1 : (t871 != 0) = true := bne_iff_ne.mpr c5
  replace H := Option.bind_eq_some_iff.mp H
  obtain ⟨t873, A900, H⟩ := H
  replace H : (some t873) = some r := H
  have A90 := Aside0.mk A900
  clear A900
  obtain rfl := Option.some.inj H
  go_enter Try.func7, Try.ntmps7
  go_wp2_with (first | ((with_reducible refine gate_callee (f := 9) rfl ?_); refine goesL_ (some 16) rfl rfl Try.func9 (by kernel_rfl) rfl #[.string a0, .int .i64 60] rfl (by (try simp only [List.map_toArray, List.map_cons, List.map_nil]); first | done | rfl | (simp only [List.length_drop, List.length_take]; rfl)) ?_; (with_reducible refine (scribelaw01_Cut.calls a0 60 t861 _ ?side1 A3.out).mono ?_); (case side1 => exact TB.below hT (by repeat (first | (with_reducible first | exact HB.out | apply below_alloc | apply pw_below_drewN | apply below_drew1) | exact HB.out))); rintro e w' ⟨rfl, ⟨nd, rfl⟩⟩; refine ⟨_, rfl, ?_⟩) | ((with_reducible refine gate_callee (f := 10) rfl ?_); refine goesL_ (some 19) rfl rfl Try.func10 (by kernel_rfl) rfl #[.string t861] rfl (by (try simp only [List.map_toArray, List.map_cons, List.map_nil]); first | done | rfl | (simp only [List.length_drop, List.length_take]; rfl)) ?_; (with_reducible refine (regex_Parse.calls k t861 t862 t863 t864 t865 t866 t867 t870 t871 _ ?side1 A4.out).mono ?_); (case side1 => exact TB.below hT (by repeat (first | (with_reducible first | exact HB.out | apply below_alloc | apply pw_below_drewN | apply below_drew1) | exact HB.out))); rintro e w91 ⟨v868, rfl, ho0, hb⟩; refine ⟨_, rfl, ?_⟩; have n0_ := Aside0.mk (Kd.R_lower ho0 (below_size (by repeat (first | (with_reducible first | exact HB.out | apply below_alloc | apply pw_below_drewN | apply below_drew1) | exact HB.out)))); have n1_ := Aside0.mk (below_step (by repeat (first | (with_reducible first | exact HB.out | apply below_alloc | apply pw_below_drewN | apply below_drew1) | exact HB.out)) hb); clear HB; have HO869 := n0_; have HB := n1_; clear n0_ n1_; (try clear hb); (try clear hb2); (try clear hk); (try clear hi); (try clear ho0)) | ((with_reducible refine gate_dst (N := 5) rfl ?_); refine box_event ?hg (N := 5) ?hd (cs := #[.int .i64 0, .int .u64 0, .int .u64 0, .int .u64 0, .int .u64 0, .slice none 0 0]) (t := 29) ?hr ?_; (case hd => rfl); (case hg => rfl); (case hr => first | (go_simp; done) | (go_simp; rfl)); intro gb872 hg w92 hbox hb; have n0_ := Aside0.mk (Kd.R_below (Kd.R_elderB (by (with_reducible repeat (first | apply Kd.R_alloc | apply Kd.R_drewN | apply Kd.R_drew)); exact HO869.out) gb872 (Nat.le_of_eq hg.symm)) hb); have n1_ := Aside0.mk (below_step (by repeat (first | (with_reducible first | exact HB.out | apply below_alloc | apply pw_below_drewN | apply below_drew1) | exact HB.out)) hb); have n2_ := Aside0.mk (hbox); have n3_ := Aside0.mk ((by rw [hg]; exact (below_size (by repeat (first | (with_reducible first | exact HB.out | apply below_alloc | apply pw_below_drewN | apply below_drew1) | exact HB.out))) : w.heap.size ≤ gb872)); have n4_ := Aside0.mk ((by rw [hg]; exact (below_size (by repeat (first | (with_reducible first | exact HB.out | apply below_alloc | apply pw_below_drewN | apply below_drew1) | exact HB.out))) : w.heap.size ≤ gb872)); clear HO869; clear HB; have HO869 := n0_; have HB := n1_; have BK872 := n2_; have GW872 := n3_; have GE872 := n4_; clear n0_ n1_ n2_ n3_ n4_; clear hb hbox hg; have hcz93_0 : w92.cell? ⟨gb872, 0, none⟩ = some (.int .i64 0) := (blk_cell BK872.out 0).trans rfl; have hcz93_1 : w92.cell? ⟨gb872, 1, none⟩ = some (.int .u64 0) := (blk_cell BK872.out 1).trans rfl; have hcz93_2 : w92.cell? ⟨gb872, 2, none⟩ = some (.int .u64 0) := (blk_cell BK872.out 2).trans rfl; have hcz93_3 : w92.cell? ⟨gb872, 3, none⟩ = some (.int .u64 0) := (blk_cell BK872.out 3).trans rfl; have hcz93_4 : w92.cell? ⟨gb872, 4, none⟩ = some (.int .u64 0) := (blk_cell BK872.out 4).trans rfl; have hcz93_5 : w92.cell? ⟨gb872, 5, none⟩ = some (.slice none 0 0) := (blk_cell BK872.out 5).trans rfl; have hfz93_0 := blk_frozen BK872.out 0; have hfz93_1 := blk_frozen BK872.out 1; have hfz93_2 := blk_frozen BK872.out 2; have hfz93_3 := blk_frozen BK872.out 3; have hfz93_4 := blk_frozen BK872.out 4; have hfz93_5 := blk_frozen BK872.out 5; obtain ⟨Ao94, co94, eo94⟩ := Kd.R_slice HO869.out; subst eo94) | ((with_reducible refine gate_callee (f := 11) rfl ?_); refine goesL_ (some 25) rfl rfl Try.func11 (by kernel_rfl) rfl #[] rfl (by (try simp only [List.map_toArray, List.map_cons, List.map_nil]); first | done | rfl | (simp only [List.length_drop, List.length_take]; rfl)) ?_; (with_reducible refine (scribelaw09_awake.calls k  t873 _ ?side1 A90.out).mono ?_); (case side1 => exact TB.below hT (by repeat (first | (with_reducible first | exact HB.out | apply below_alloc | apply pw_below_drewN | apply below_drew1 | refine below_set ?_ GE872.out) | exact HB.out))); rintro e w95 ⟨rfl, hb⟩; refine ⟨_, rfl, ?_⟩; have n0_ := Aside0.mk (Kd.R_below (by (with_reducible repeat (first | apply Kd.R_alloc | apply Kd.R_drewN | apply Kd.R_drew)); exact (Kd.R_mono (Kd.R_far (p := ⟨gb872, 5, none⟩) (Kd.R_far (p := ⟨gb872, 4, none⟩) (Kd.R_far (p := ⟨gb872, 3, none⟩) (Kd.R_far (p := ⟨gb872, 2, none⟩) (Kd.R_far (p := ⟨gb872, 1, none⟩) (Kd.R_far (p := ⟨gb872, 0, none⟩) (Kd.R_mono HO869.out (fun k_ hk => (⟨hk, hk.2⟩ : _ ∧ k_ ≠ gb872))) (fun _ hk => hk.2) (.int .i64 t862)) (fun _ hk => hk.2) (.int .u64 t863)) (fun _ hk => hk.2) (.int .u64 t864)) (fun _ hk => hk.2) (.int .u64 t865)) (fun _ hk => hk.2) (.int .u64 t866)) (fun _ hk => hk.2) (.slice Ao94 t867.length co94)) (fun _ h_ => h_.1))) hb); have n1_ := Aside0.mk (blk_below (g := gb872) (o := .cells #[.int .i64 t862, .int .u64 t863, .int .u64 t864, .int .u64 t865, .int .u64 t866, .slice Ao94 t867.length co94] 29 (0, 0)) (by (with_reducible repeat (first | refine blk_drewN ?_ _ | refine blk_drew ?_ | refine blk_alloc ?_ _)); refine blk_put (cs := #[.int .i64 t862, .int .u64 t863, .int .u64 t864, .int .u64 t865, .int .u64 t866, .slice none 0 0]) ?_ 5 _ rfl; (with_reducible repeat (first | refine blk_drewN ?_ _ | refine blk_drew ?_ | refine blk_alloc ?_ _)); refine blk_put (cs := #[.int .i64 t862, .int .u64 t863, .int .u64 t864, .int .u64 t865, .int .u64 0, .slice none 0 0]) ?_ 4 _ rfl; (with_reducible repeat (first | refine blk_drewN ?_ _ | refine blk_drew ?_ | refine blk_alloc ?_ _)); refine blk_put (cs := #[.int .i64 t862, .int .u64 t863, .int .u64 t864, .int .u64 0, .int .u64 0, .slice none 0 0]) ?_ 3 _ rfl; (with_reducible repeat (first | refine blk_drewN ?_ _ | refine blk_drew ?_ | refine blk_alloc ?_ _)); refine blk_put (cs := #[.int .i64 t862, .int .u64 t863, .int .u64 0, .int .u64 0, .int .u64 0, .slice none 0 0]) ?_ 2 _ rfl; (with_reducible repeat (first | refine blk_drewN ?_ _ | refine blk_drew ?_ | refine blk_alloc ?_ _)); refine blk_put (cs := #[.int .i64 t862, .int .u64 0, .int .u64 0, .int .u64 0, .int .u64 0, .slice none 0 0]) ?_ 1 _ rfl; (with_reducible repeat (first | refine blk_drewN ?_ _ | refine blk_drew ?_ | refine blk_alloc ?_ _)); refine blk_put (cs := #[.int .i64 0, .int .u64 0, .int .u64 0, .int .u64 0, .int .u64 0, .slice none 0 0]) ?_ 0 _ rfl; (with_reducible repeat (first | refine blk_drewN ?_ _ | refine blk_drew ?_ | refine blk_alloc ?_ _)); exact BK872.out) hb); have n2_ := Aside0.mk (below_step (by repeat (first | (with_reducible first | exact HB.out | apply below_alloc | apply pw_below_drewN | apply below_drew1 | refine below_set ?_ GE872.out) | exact HB.out)) hb); clear HO869; clear BK872; clear HB; have HO869 := n0_; have BK872 := n1_; have HB := n2_; clear n0_ n1_ n2_; (try clear hb); (try clear hb2); (try clear hk); (try clear hi)))
  go_ret
  exact ⟨by first | rfl | (simp [errW_none, errW_some] <;> rfl) | (simp [errW_none, errW_some] <;> first | rfl | exact isEmpty_bne _) | (simp [*, errW_none, errW_some] <;> rfl), by repeat (first | (with_reducible first | exact HB.out | apply below_alloc | apply pw_below_drewN | apply below_drew1 | refine below_set ?_ GE872.out) | exact HB.out)⟩

end Go.Proofs.Ytdjnjhmmpjbbaaa.Pr
