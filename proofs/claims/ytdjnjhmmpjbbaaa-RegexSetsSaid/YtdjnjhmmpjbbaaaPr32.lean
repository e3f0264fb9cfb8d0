/- The machine's side, written by a patched print (wip/tools): each theorem says that a call of the Go function comes to what the Lean function beside it computes, where the tables are laid (TB). -/
import Derived.Test.YtdjnjhmmpjbbaaaPuRxS
import Derived.Test.YtdjnjhmmpjbbaaaPuRxAw
import Derived.Test.YtdjnjhmmpjbbaaaPr0
import Derived.Test.YtdjnjhmmpjbbaaaPr1
import Derived.Test.YtdjnjhmmpjbbaaaPr2
import Derived.Test.YtdjnjhmmpjbbaaaPr16
import Derived.Test.YtdjnjhmmpjbbaaaPr25
import Derived.Test.YtdjnjhmmpjbbaaaPr27
namespace Go.Proofs.Ytdjnjhmmpjbbaaa.Pr
open Go.RowKit Go.Proofs.YtdjnjhmmpjbbaaaW.PrintWords Go.Proofs.YtdjnjhmmpjbbaaaW.PrintLast Go.Proofs.YtdjnjhmmpjbbaaaW.PrintMore
attribute [local go_sem] fld39_0 fld39_1 fld39_2 fld50_0 fld50_1 fld50_2 fld50_3 fld50_4 fld54_0 fld54_1 fld54_2 fld54_3 fld54_4 fld9000_0 fld9000_1 fld9000_2 fld9000_3 fld9000_4 binOp_string_gtr2 binOp_string_leq2 binOp_string_geq2 max2_int min2_int max_two min_two max_three min_three max_four min_four   -- for this text's walks alone
set_option linter.unusedVariables false
set_option linter.unusedSimpArgs false

attribute [local go_sem high] eqA26
/-! ### scribelaw09_RegexSets: function 8 -/
def scribelaw09_RegexSets.l0 : Nat → ByteArray → Int → Bool → Int → Int → Int → Int → Int → Option (Bool)
 | 0, _, _, _, _, _, _, _, _ => none
 | k + 1, x0, x1, x6, x7, x890000, x890001, x890002, x890003 => if x7 < (x0.size : Int) then (if 0 ≤ x7 then ((regex_Set_With.f x890000 x890001 x890002 x890003 (bt x0 x7)).bind fun bt890 => (if x6 = true then (scribelaw09_RegexSets.l0 k x0 x1 true (wrap64 (x7 + 1)) bt890.1 bt890.2.1 bt890.2.2.1 bt890.2.2.2) else (scribelaw09_RegexSets.l0 k x0 x1 ((bt x0 x7) == x1) (wrap64 (x7 + 1)) bt890.1 bt890.2.1 bt890.2.2.1 bt890.2.2.2))) else (none)) else ((regex_Set_Not.f x890000 x890001 x890002 x890003).bind fun bt895 => ((scribelaw09_awake.f k).bind fun t900 => (if t900 = true then ((regex_Set_Has.f x890000 x890001 x890002 x890003 x1).bind fun t901 => (if (t901 == x6) = true then ((regex_Set_Not.f x890000 x890001 x890002 x890003).bind fun bt902 => ((regex_Set_Has.f bt902.1 bt902.2.1 bt902.2.2.1 bt902.2.2.2 x1).bind fun t906 => (if (t906 == (!x6)) = true then ((regex_Set_Not.f x890000 x890001 x890002 x890003).bind fun bt907 => ((regex_Set_Not.f bt907.1 bt907.2.1 bt907.2.2.1 bt907.2.2.2).bind fun bt911 => (if (bt911.1 == x890000 && (bt911.2.1 == x890001 && (bt911.2.2.1 == x890002 && (bt911.2.2.2 == x890003)))) = true then ((regex_Print.f k 1 x890000 x890001 x890002 x890003 ([] : List (S29))).bind fun t915 => ((scriberef09_Print.f k 1 x0 ([] : List (S39))).bind fun t916 => (if t915.toList = t916.toList then ((regex_Print.f k 1 bt895.1 bt895.2.1 bt895.2.2.1 bt895.2.2.2 ([] : List (S29))).bind fun t917 => ((scriberef09_Bytes.f k x0 true).bind fun t918 => ((scriberef09_Print.f k 1 t918 ([] : List (S39))).bind fun t919 => (some (t917.toList == t919.toList))))) else (none)))) else (none)))) else (none)))) else (none))) else (none))))
def scribelaw09_RegexSets.f (k : Nat) (a0 : ByteArray) (a1 : Int) : Option (Bool) := (scribelaw01_Cut.f a0 300).bind fun t888 => (scribelaw09_RegexSets.l0 k t888 a1 false 0 0 0 0 0)
theorem scribelaw09_RegexSets.mono_l : ∀ k, (∀ y0 y1 y2 y3 y4 y5 y6 y7, LeO (scribelaw09_RegexSets.l0 k y0 y1 y2 y3 y4 y5 y6 y7) (scribelaw09_RegexSets.l0 (k + 1) y0 y1 y2 y3 y4 y5 y6 y7))
 | 0 => fun _ _ _ _ _ _ _ _ r h => by simp [scribelaw09_RegexSets.l0] at h
 | k + 1 => by
  have ih0 := scribelaw09_RegexSets.mono_l k
  ·intro y0 y1 y2 y3 y4 y5 y6 y7
   unfold scribelaw09_RegexSets.l0
   repeat' first
   | (with_reducible exact ih0 _ _ _ _ _ _ _ _)
   | (with_reducible exact regex_Print.mono _ _ _ _ _ _ _)
   | (with_reducible exact scribelaw09_awake.mono _)
   | (with_reducible exact scriberef09_Bytes.mono _ _ _)
   | (with_reducible exact scriberef09_Print.mono _ _ _ _)
   | (with_reducible exact LeO.refl _)
   | (with_reducible exact LeO.none _)
   | (with_reducible refine LeO.ite ?_ ?_)
   | (with_reducible refine LeO.bind ?_ (fun _ => ?_))
   | exact ih0 _ _ _ _ _ _ _ _
   | exact regex_Print.mono _ _ _ _ _ _ _
   | exact scribelaw09_awake.mono _
   | exact scriberef09_Bytes.mono _ _ _
   | exact scriberef09_Print.mono _ _ _ _
   | exact LeO.none _
   | refine LeO.ite ?_ ?_
   | refine LeO.bind ?_ (fun _ => ?_)
theorem scribelaw09_RegexSets.mono : ∀ a0 a1 k, LeO (scribelaw09_RegexSets.f k a0 a1) (scribelaw09_RegexSets.f (k + 1) a0 a1) := by
 intro a0 a1 k
 have ih0 := scribelaw09_RegexSets.mono_l k
 unfold scribelaw09_RegexSets.f
 repeat' first
   | (with_reducible exact ih0 _ _ _ _ _ _ _ _)
   | (with_reducible exact regex_Print.mono _ _ _ _ _ _ _)
   | (with_reducible exact scribelaw09_awake.mono _)
   | (with_reducible exact scriberef09_Bytes.mono _ _ _)
   | (with_reducible exact scriberef09_Print.mono _ _ _ _)
   | (with_reducible exact LeO.refl _)
   | (with_reducible exact LeO.none _)
   | (with_reducible refine LeO.ite ?_ ?_)
   | (with_reducible refine LeO.bind ?_ (fun _ => ?_))
   | exact ih0 _ _ _ _ _ _ _ _
   | exact regex_Print.mono _ _ _ _ _ _ _
   | exact scribelaw09_awake.mono _
   | exact scriberef09_Bytes.mono _ _ _
   | exact scriberef09_Print.mono _ _ _ _
   | exact LeO.none _
   | refine LeO.ite ?_ ?_
   | refine LeO.bind ?_ (fun _ => ?_)
def scribelaw09_RegexSets.T11 : Bool × List (List Nat × List Nat) := (true, [([], []), ([0, 0], [0]), ([1], [1]), ([1], [1]), ([2, 3, 1, 1], [1, 2, 3]), ([1], [1]), ([4, 5, 1], [1, 4, 5]), ([1, 6], [1, 6]), ([7, 4], [7]), ([8], [8]), ([9, 8, 8], [8, 9]), ([8], [8]), ([10, 11, 10, 8], [8, 10, 11]), ([8], [8]), ([13, 8], [8, 13]), ([12, 14, 8], [8, 12, 14]), ([8, 15], [8, 15]), ([16, 12], [16]), ([17], [17]), ([18, 17, 17], [17, 18]), ([19, 19, 17], [17, 19]), ([17], [17]), ([20, 21, 17], [17, 20, 21]), ([17, 22], [17, 22]), ([23, 20], [23]), ([24], [24]), ([25, 24, 24], [24, 25]), ([24], [24]), ([27, 24], [24, 27]), ([28, 26, 24], [24, 28]), ([26, 29, 24], [24, 26, 29]), ([24, 30], [24, 30]), ([31, 29], [31]), ([32], [32]), ([33, 32, 32], [32, 33]), ([32], [32]), ([35, 34, 32], [32, 35]), ([36, 32], [32, 36]), ([37, 36, 32], [32, 37]), ([34, 38, 32], [32, 34, 38]), ([32, 39], [32, 39]), ([40, 38, 0, 1, 2, 3, 4, 5, 6, 7, 8, 9, 10, 11, 12, 13, 14, 15, 16, 17, 18, 19, 20, 21, 22, 23, 24, 25, 26, 27, 28, 29, 30, 31, 32, 33, 34, 35, 36, 37, 38, 39, 40], [40])])
def scribelaw09_RegexSets.B11 : List Nat := [0, 1, 3, 3, 15, 3, 63, 127, 255, 511, 1023, 511, 4095, 511, 8703, 32767, 65535, 131071, 262143, 524287, 1048575, 262143, 4194303, 8388607, 16777215, 33554431, 67108863, 33554431, 167772159, 536870911, 1073741823, 2147483647, 4294967295, 8589934591, 17179869183, 8589934591, 68719476735, 137438953471, 274877906943, 549755813887, 1099511627775, 2199023255551]
theorem scribelaw09_RegexSets.tab11 : rtab .any (opsOf Try.f8 11) = scribelaw09_RegexSets.T11 := by kernel_rfl
theorem scribelaw09_RegexSets.bits11 : waitsOk scribelaw09_RegexSets.T11.2 scribelaw09_RegexSets.B11 = true := by kernel_rfl
set_option maxHeartbeats 8000000 in
set_option maxRecDepth 100000 in
theorem scribelaw09_RegexSets.calls (k : Nat) (a0 : ByteArray) (a1 : Int) (r : Bool) (w : World) (hT : TB w) (h : scribelaw09_RegexSets.f k a0 a1 = some r) :
  Calls Try.prog 8 #[.string a0, .int .u8 a1] w fun e w' => e = .returned (.bool r) ∧ Below w.heap.size w w' := by
 have hu26 := Try.underlying26
 have hu29 := Try.underlying29
 have hu39 := Try.underlying39
 have HB := Aside0.mk (Below.refl w.heap.size w)
 have H : ((scribelaw01_Cut.f a0 300).bind fun t888 => (scribelaw09_RegexSets.l0 k t888 a1 false 0 0 0 0 0)) = some r := h
 clear h
 replace H := Option.bind_eq_some_iff.mp H
 obtain ⟨t888, A30, H⟩ := H
 replace H : (scribelaw09_RegexSets.l0 k t888 a1 false 0 0 0 0 0) = some r := H
 have A3 := Aside0.mk A30
 clear A30
 have H' := Aside0.mk H
 clear H
 go_enter Try.func8, Try.ntmps8
 go_wp2_with (first | ((with_reducible refine gate_callee (f := 9) rfl ?_); refine goesL_ (some 11) rfl rfl Try.func9 (by kernel_rfl) rfl #[.string a0, .int .i64 300] rfl (by (try simp only [List.map_toArray, List.map_cons, List.map_nil]); first | done | rfl | (simp only [List.length_drop, List.length_take]; rfl)) ?_; (with_reducible refine (scribelaw01_Cut.calls a0 300 t888 _ ?side1 A3.out).mono ?_); (case side1 => exact TB.below hT (by repeat (first | (with_reducible first | exact HB.out | apply below_alloc | apply pw_below_drewN | apply below_drew1) | exact HB.out))); rintro e w' ⟨rfl, ⟨nd, rfl⟩⟩; refine ⟨_, rfl, ?_⟩) | ((with_reducible refine gate_dst (N := 5) rfl ?_); refine box_event ?hg (N := 5) ?hd (cs := #[.int .u64 0, .int .u64 0, .int .u64 0, .int .u64 0]) (t := 26) ?hr ?_; (case hd => rfl); (case hg => rfl); (case hr => first | (go_simp; done) | (go_simp; rfl)); intro gb889 hg w4 hbox hb; have n0_ := Aside0.mk (below_step (by repeat (first | (with_reducible first | exact HB.out | apply below_alloc | apply pw_below_drewN | apply below_drew1) | exact HB.out)) hb); have n1_ := Aside0.mk (hbox); have n2_ := Aside0.mk ((by rw [hg]; exact (below_size (by repeat (first | (with_reducible first | exact HB.out | apply below_alloc | apply pw_below_drewN | apply below_drew1) | exact HB.out))) : w.heap.size ≤ gb889)); have n3_ := Aside0.mk ((by rw [hg]; exact (below_size (by repeat (first | (with_reducible first | exact HB.out | apply below_alloc | apply pw_below_drewN | apply below_drew1) | exact HB.out))) : w.heap.size ≤ gb889)); clear HB; have HB := n0_; have BK889 := n1_; have GW889 := n2_; have GE889 := n3_; clear n0_ n1_ n2_ n3_; clear hb hbox hg))
 go_loopg [6, 7] k (fun kq v6 v7 w' => ∃ (x6_1 : Bool) (x7_1 : Int) (x890000_1 : Int) (x890001_1 : Int) (x890002_1 : Int) (x890003_1 : Int), v6 = .bool x6_1 ∧ v7 = .int .i64 x7_1 ∧ Aside0 (scribelaw09_RegexSets.l0 kq t888 a1 x6_1 x7_1 x890000_1 x890001_1 x890002_1 x890003_1 = some r) ∧ Aside0 (kq ≤ k) ∧ Aside0 (w'.heap[gb889]? = some (.cells #[.int .u64 x890000_1, .int .u64 x890001_1, .int .u64 x890002_1, .int .u64 x890003_1] 26 (0, 0))) ∧ Aside0 (Below w.heap.size w w'))
 case atStart => exact ⟨(false), (0), (0), (0), (0), (0), (by first | rfl | (simp; done) | (simp [*]; done) | (simp; unfold wrap64; omega)), (by first | rfl | (simp; done) | (simp [*]; done) | (simp; unfold wrap64; omega)), H', ⟨Nat.le_refl _⟩, ⟨by (with_reducible repeat (first | refine blk_drewN ?_ _ | refine blk_drew ?_ | refine blk_alloc ?_ _)); exact BK889.out⟩, ⟨by repeat (first | (with_reducible first | exact HB.out | apply below_alloc | apply pw_below_drewN | apply below_drew1 | refine below_set ?_ GE889.out) | exact HB.out)⟩⟩
 case round =>
  clear H'
  try clear p2
  obtain ⟨x6_1, x7_1, x890000_1, x890001_1, x890002_1, x890003_1, rfl, rfl, HA, HK1, BK889, HB⟩ := hrel
  cases gk with
  | zero => exact absurd HA.out (by simp [scribelaw09_RegexSets.l0])
  | succ k1 =>
   have H := HA.out
   clear HA
   simp only [scribelaw09_RegexSets.l0] at H
   by_cases c5 : x7_1 < (t888.size : Int)
   ·rw [if_pos c5] at H
    have c5b0 : decide (x7_1 < (t888.size : Int)) = true := decide_eq_true c5
    clear c5
    by_cases c6 : 0 ≤ x7_1
    ·rw [if_pos c6] at H
     have c6b0 : decide (0 ≤ x7_1) = true := decide_eq_true c6
     clear c6
     replace H := Option.bind_eq_some_iff.mp H
     obtain ⟨⟨t890, t891, t892, t893⟩, A80, H⟩ := H
     replace H : (if x6_1 = true then (scribelaw09_RegexSets.l0 k1 t888 a1 true (wrap64 (x7_1 + 1)) t890 t891 t892 t893) else (scribelaw09_RegexSets.l0 k1 t888 a1 ((bt t888 x7_1) == a1) (wrap64 (x7_1 + 1)) t890 t891 t892 t893)) = some r := H
     have A8 := Aside0.mk A80
     clear A80
     by_cases c9 : x6_1 = true
     ·subst c9
      have H1 : (scribelaw09_RegexSets.l0 k1 t888 a1 true (wrap64 (x7_1 + 1)) t890 t891 t892 t893) = some r := by rw [if_pos rfl] at H; exact H
      clear H
      have H := H1
      clear H1
      have H' := Aside0.mk H
      clear H
      try go_wp2
      have n0_ := Aside0.mk (blk_drew BK889.out)
      have n1_ := Aside0.mk (below_drew1 HB.out)
      clear BK889
      clear HB
      have BK889 := n0_
      have HB := n1_
      clear n0_ n1_
      have p7 : 0 ≤ (x7_1 : Int) := of_decide_eq_true (by first | (with_reducible assumption) | assumption)
      have q7 : x7_1 < (t888.size : Int) := of_decide_eq_true (by first | (with_reducible assumption) | assumption)
      have hx7 := bt_at t888 x7_1
      replace p7 := eq_true p7
      replace q7 := eq_true q7
      refine start_ (n := 6) (S := fun w' => w'.cell? ⟨gb889, 0, none⟩ = some (.int .u64 x890000_1) ∧ w'.cell? ⟨gb889, 1, none⟩ = some (.int .u64 x890001_1) ∧ w'.cell? ⟨gb889, 2, none⟩ = some (.int .u64 x890002_1) ∧ w'.cell? ⟨gb889, 3, none⟩ = some (.int .u64 x890003_1)) (ds := [5]) #[ff,ff,ff,ff,ff,ff] (by kernel_rfl) rfl rfl ⟨(blk_cell BK889.out 0).trans rfl, (blk_cell BK889.out 1).trans rfl, (blk_cell BK889.out 2).trans rfl, (blk_cell BK889.out 3).trans rfl⟩ (fun hHeld => ?_)
      generalize wr.drew = w10 at BK889 HB hHeld ⊢
      refine pure_ (i := 1) (N := some 19) (v := ?_) (a' := ?_) #[ff,tt,ff,ff,ff,ff] rfl rfl (by kernel_rfl) (fun _ _ _ h => h) (Or.inl ⟨by rfl, ?_⟩) ?_ ?_
      rotate_left
      ·intro w'
       go_simp
       with_reducible rfl
      rotate_left
      ·simp only [Act.put, setA, setZ, setS, i64_w, i32_w]
       rfl
      refine pure_ (i := 2) (N := some 20) (v := ?_) (a' := ?_) #[ff,tt,tt,ff,ff,ff] rfl rfl (by kernel_rfl) (fun _ _ _ h => h) (Or.inl ⟨by rfl, ?_⟩) ?_ ?_
      rotate_left
      ·intro w'
       go_simp
       with_reducible rfl
      rotate_left
      ·simp only [Act.put, setA, setZ, setS, i64_w, i32_w]
       rfl
      refine take_ (i := 0) (N := some 18) (v := ?_) (a' := ?_) #[tt,tt,tt,ff,ff,ff] rfl rfl (by kernel_rfl) (fun _ _ _ h => h) (Or.inl ⟨by rfl, ?_⟩) hHeld ?_ ?_
      rotate_left
      ·rintro w' ⟨s0, s1, s2, s3⟩
       go_simp
       with_reducible rfl
      rotate_left
      ·simp only [Act.put, setA, setZ, setS, i64_w, i32_w]
       rfl
      refine take_ (i := 3) (N := some 21) (v := ?_) (a' := ?_) #[tt,tt,tt,tt,ff,ff] rfl rfl (by kernel_rfl) (fun _ _ _ h => h) (Or.inl ⟨by rfl, ?_⟩) hHeld ?_ ?_
      rotate_left
      ·rintro w' ⟨s0, s1, s2, s3⟩
       go_simp
       with_reducible rfl
      rotate_left
      ·simp only [Act.put, setA, setZ, setS, i64_w, i32_w]
       rfl
      refine one_ (i := 4) (N := some 22) #[tt,tt,tt,tt,tt,ff] rfl rfl (by kernel_rfl) (by decide) (fun K hK => ?_)
      refine goes_ Try.func12 (by kernel_rfl) rfl #[.agg #[.int .u64 x890000_1, .int .u64 x890001_1, .int .u64 x890002_1, .int .u64 x890003_1], .int .u8 (bt t888 x7_1)] (by rfl) rfl rfl (by (try simp only [List.map_toArray, List.map_cons, List.map_nil]); first | done | rfl | (simp only [List.length_drop, List.length_take]; rfl)) ?_
      with_reducible refine (regex_Set_With.calls x890000_1 x890001_1 x890002_1 x890003_1 (bt t888 x7_1) t890 t891 t892 t893 _ ?side1 A8.out).mono ?_
      (case side1 => exact TB.below hT (by repeat (first | (with_reducible first | exact HB.out | apply below_alloc | apply pw_below_drewN | apply below_drew1 | refine below_set ?_ GE889.out) | exact HB.out)))
      rintro e w11 ⟨rfl, hb⟩
      refine ⟨_, rfl, ?_⟩
      have n0_ := Aside0.mk (blk_below (g := gb889) (o := .cells #[.int .u64 x890000_1, .int .u64 x890001_1, .int .u64 x890002_1, .int .u64 x890003_1] 26 (0, 0)) (by (with_reducible repeat (first | refine blk_drewN ?_ _ | refine blk_drew ?_ | refine blk_alloc ?_ _)); exact BK889.out) hb)
      have n1_ := Aside0.mk (below_step (by repeat (first | (with_reducible first | exact HB.out | apply below_alloc | apply pw_below_drewN | apply below_drew1 | refine below_set ?_ GE889.out) | exact HB.out)) hb)
      clear BK889
      clear HB
      have BK889 := n0_
      have HB := n1_
      clear n0_ n1_
      (try clear hb)
      (try clear hb2)
      (try clear hk)
      (try clear hi)
      refine hK.out _ _ ⟨(blk_cell BK889.out 0).trans rfl, (blk_cell BK889.out 1).trans rfl, (blk_cell BK889.out 2).trans rfl, (blk_cell BK889.out 3).trans rfl⟩ (fun hHeld => ?_)
      clear hK K
      refine norm_ (a' := ?_) ?_ ?_
      rotate_left
      ·show Act.put _ (some 22) _ = _
       simp only [Act.put, setA, setZ, setS, i64_w, i32_w]
       rfl
      refine last_ (i := 5) (N := none) #[tt,tt,tt,tt,tt,tt] rfl rfl (by kernel_rfl) (by decide) (fun K hK => ?_)
      have hs12 : w11.cell? ⟨gb889, 0, none⟩ = some (.int .u64 x890000_1) := (blk_cell BK889.out 0).trans rfl
      have hfs12 := blk_frozen BK889.out 0
      have hs13 : w11.cell? ⟨gb889, 1, none⟩ = some (.int .u64 x890001_1) := (blk_cell BK889.out 1).trans rfl
      have hfs13 := blk_frozen BK889.out 1
      have hs14 : w11.cell? ⟨gb889, 2, none⟩ = some (.int .u64 x890002_1) := (blk_cell BK889.out 2).trans rfl
      have hfs14 := blk_frozen BK889.out 2
      have hs15 : w11.cell? ⟨gb889, 3, none⟩ = some (.int .u64 x890003_1) := (blk_cell BK889.out 3).trans rfl
      have hfs15 := blk_frozen BK889.out 3
      refine skip_ (w1 := ?_) (by rfl) rfl ?_ ?_
      rotate_left
      ·go_simp
       rfl
      refine hK.out _ _ ?_
      clear hK K
      refine done_ (by kernel_rfl) ?_
      try go_wp2
      go_roundg k1
      case measure => have := HK1.out; omega
      case rel => exact ⟨(true), (wrap64 (x7_1 + 1)), (t890), (t891), (t892), (t893), (by first | rfl | (simp; done) | (simp [*]; done) | (simp; unfold wrap64; omega)), (by first | rfl | (simp; done) | (simp [*]; done) | (simp; unfold wrap64; omega)), H', ⟨by have := HK1.out; omega⟩, ⟨by (with_reducible repeat (first | refine blk_drewN ?_ _ | refine blk_drew ?_ | refine blk_alloc ?_ _)); refine blk_put (cs := #[.int .u64 t890, .int .u64 t891, .int .u64 t892, .int .u64 x890003_1]) ?_ 3 _ rfl; (with_reducible repeat (first | refine blk_drewN ?_ _ | refine blk_drew ?_ | refine blk_alloc ?_ _)); refine blk_put (cs := #[.int .u64 t890, .int .u64 t891, .int .u64 x890002_1, .int .u64 x890003_1]) ?_ 2 _ rfl; (with_reducible repeat (first | refine blk_drewN ?_ _ | refine blk_drew ?_ | refine blk_alloc ?_ _)); refine blk_put (cs := #[.int .u64 t890, .int .u64 x890001_1, .int .u64 x890002_1, .int .u64 x890003_1]) ?_ 1 _ rfl; (with_reducible repeat (first | refine blk_drewN ?_ _ | refine blk_drew ?_ | refine blk_alloc ?_ _)); refine blk_put (cs := #[.int .u64 x890000_1, .int .u64 x890001_1, .int .u64 x890002_1, .int .u64 x890003_1]) ?_ 0 _ rfl; (with_reducible repeat (first | refine blk_drewN ?_ _ | refine blk_drew ?_ | refine blk_alloc ?_ _)); exact BK889.out⟩, ⟨by repeat (first | (with_reducible first | exact HB.out | apply below_alloc | apply pw_below_drewN | apply below_drew1 | refine below_set ?_ GE889.out) | exact HB.out)⟩⟩
     ·replace c9 := Bool.eq_false_iff.mpr c9
      subst c9
      have H1 : (scribelaw09_RegexSets.l0 k1 t888 a1 ((bt t888 x7_1) == a1) (wrap64 (x7_1 + 1)) t890 t891 t892 t893) = some r := by rw [if_neg (show ¬ (false = true) by decide)] at H; exact H
      clear H
      have H := H1
      clear H1
      have H' := Aside0.mk H
      clear H
      try go_wp2
      have n0_ := Aside0.mk (blk_drew BK889.out)
      have n1_ := Aside0.mk (below_drew1 HB.out)
      clear BK889
      clear HB
      have BK889 := n0_
      have HB := n1_
      clear n0_ n1_
      have p7 : 0 ≤ (x7_1 : Int) := of_decide_eq_true (by first | (with_reducible assumption) | assumption)
      have q7 : x7_1 < (t888.size : Int) := of_decide_eq_true (by first | (with_reducible assumption) | assumption)
      have hx7 := bt_at t888 x7_1
      replace p7 := eq_true p7
      replace q7 := eq_true q7
      refine start_ (n := 6) (S := fun w' => w'.cell? ⟨gb889, 0, none⟩ = some (.int .u64 x890000_1) ∧ w'.cell? ⟨gb889, 1, none⟩ = some (.int .u64 x890001_1) ∧ w'.cell? ⟨gb889, 2, none⟩ = some (.int .u64 x890002_1) ∧ w'.cell? ⟨gb889, 3, none⟩ = some (.int .u64 x890003_1)) (ds := [5]) #[ff,ff,ff,ff,ff,ff] (by kernel_rfl) rfl rfl ⟨(blk_cell BK889.out 0).trans rfl, (blk_cell BK889.out 1).trans rfl, (blk_cell BK889.out 2).trans rfl, (blk_cell BK889.out 3).trans rfl⟩ (fun hHeld => ?_)
      generalize wr.drew = w17 at BK889 HB hHeld ⊢
      refine pure_ (i := 1) (N := some 19) (v := ?_) (a' := ?_) #[ff,tt,ff,ff,ff,ff] rfl rfl (by kernel_rfl) (fun _ _ _ h => h) (Or.inl ⟨by rfl, ?_⟩) ?_ ?_
      rotate_left
      ·intro w'
       go_simp
       with_reducible rfl
      rotate_left
      ·simp only [Act.put, setA, setZ, setS, i64_w, i32_w]
       rfl
      refine pure_ (i := 2) (N := some 20) (v := ?_) (a' := ?_) #[ff,tt,tt,ff,ff,ff] rfl rfl (by kernel_rfl) (fun _ _ _ h => h) (Or.inl ⟨by rfl, ?_⟩) ?_ ?_
      rotate_left
      ·intro w'
       go_simp
       with_reducible rfl
      rotate_left
      ·simp only [Act.put, setA, setZ, setS, i64_w, i32_w]
       rfl
      refine take_ (i := 0) (N := some 18) (v := ?_) (a' := ?_) #[tt,tt,tt,ff,ff,ff] rfl rfl (by kernel_rfl) (fun _ _ _ h => h) (Or.inl ⟨by rfl, ?_⟩) hHeld ?_ ?_
      rotate_left
      ·rintro w' ⟨s0, s1, s2, s3⟩
       go_simp
       with_reducible rfl
      rotate_left
      ·simp only [Act.put, setA, setZ, setS, i64_w, i32_w]
       rfl
      refine take_ (i := 3) (N := some 21) (v := ?_) (a' := ?_) #[tt,tt,tt,tt,ff,ff] rfl rfl (by kernel_rfl) (fun _ _ _ h => h) (Or.inl ⟨by rfl, ?_⟩) hHeld ?_ ?_
      rotate_left
      ·rintro w' ⟨s0, s1, s2, s3⟩
       go_simp
       with_reducible rfl
      rotate_left
      ·simp only [Act.put, setA, setZ, setS, i64_w, i32_w]
       rfl
      refine one_ (i := 4) (N := some 22) #[tt,tt,tt,tt,tt,ff] rfl rfl (by kernel_rfl) (by decide) (fun K hK => ?_)
      refine goes_ Try.func12 (by kernel_rfl) rfl #[.agg #[.int .u64 x890000_1, .int .u64 x890001_1, .int .u64 x890002_1, .int .u64 x890003_1], .int .u8 (bt t888 x7_1)] (by rfl) rfl rfl (by (try simp only [List.map_toArray, List.map_cons, List.map_nil]); first | done | rfl | (simp only [List.length_drop, List.length_take]; rfl)) ?_
      with_reducible refine (regex_Set_With.calls x890000_1 x890001_1 x890002_1 x890003_1 (bt t888 x7_1) t890 t891 t892 t893 _ ?side1 A8.out).mono ?_
      (case side1 => exact TB.below hT (by repeat (first | (with_reducible first | exact HB.out | apply below_alloc | apply pw_below_drewN | apply below_drew1 | refine below_set ?_ GE889.out) | exact HB.out)))
      rintro e w18 ⟨rfl, hb⟩
      refine ⟨_, rfl, ?_⟩
      have n0_ := Aside0.mk (blk_below (g := gb889) (o := .cells #[.int .u64 x890000_1, .int .u64 x890001_1, .int .u64 x890002_1, .int .u64 x890003_1] 26 (0, 0)) (by (with_reducible repeat (first | refine blk_drewN ?_ _ | refine blk_drew ?_ | refine blk_alloc ?_ _)); exact BK889.out) hb)
      have n1_ := Aside0.mk (below_step (by repeat (first | (with_reducible first | exact HB.out | apply below_alloc | apply pw_below_drewN | apply below_drew1 | refine below_set ?_ GE889.out) | exact HB.out)) hb)
      clear BK889
      clear HB
      have BK889 := n0_
      have HB := n1_
      clear n0_ n1_
      (try clear hb)
      (try clear hb2)
      (try clear hk)
      (try clear hi)
      refine hK.out _ _ ⟨(blk_cell BK889.out 0).trans rfl, (blk_cell BK889.out 1).trans rfl, (blk_cell BK889.out 2).trans rfl, (blk_cell BK889.out 3).trans rfl⟩ (fun hHeld => ?_)
      clear hK K
      refine norm_ (a' := ?_) ?_ ?_
      rotate_left
      ·show Act.put _ (some 22) _ = _
       simp only [Act.put, setA, setZ, setS, i64_w, i32_w]
       rfl
      refine last_ (i := 5) (N := none) #[tt,tt,tt,tt,tt,tt] rfl rfl (by kernel_rfl) (by decide) (fun K hK => ?_)
      have hs19 : w18.cell? ⟨gb889, 0, none⟩ = some (.int .u64 x890000_1) := (blk_cell BK889.out 0).trans rfl
      have hfs19 := blk_frozen BK889.out 0
      have hs20 : w18.cell? ⟨gb889, 1, none⟩ = some (.int .u64 x890001_1) := (blk_cell BK889.out 1).trans rfl
      have hfs20 := blk_frozen BK889.out 1
      have hs21 : w18.cell? ⟨gb889, 2, none⟩ = some (.int .u64 x890002_1) := (blk_cell BK889.out 2).trans rfl
      have hfs21 := blk_frozen BK889.out 2
      have hs22 : w18.cell? ⟨gb889, 3, none⟩ = some (.int .u64 x890003_1) := (blk_cell BK889.out 3).trans rfl
      have hfs22 := blk_frozen BK889.out 3
      refine skip_ (w1 := ?_) (by rfl) rfl ?_ ?_
      rotate_left
      ·go_simp
       rfl
      refine hK.out _ _ ?_
      clear hK K
      refine done_ (by kernel_rfl) ?_
      have p16 : 0 ≤ (x7_1 : Int) := of_decide_eq_true (by first | (with_reducible assumption) | assumption)
      have q16 : x7_1 < (t888.size : Int) := of_decide_eq_true (by first | (with_reducible assumption) | assumption)
      have hx16 := bt_at t888 x7_1
      replace p16 := eq_true p16
      replace q16 := eq_true q16
      try go_wp2
      go_roundg k1
      case measure => have := HK1.out; omega
      case rel => exact ⟨(((bt t888 x7_1) == a1)), (wrap64 (x7_1 + 1)), (t890), (t891), (t892), (t893), (by first | rfl | (simp; done) | (simp [*]; done) | (simp; unfold wrap64; omega)), (by first | rfl | (simp; done) | (simp [*]; done) | (simp; unfold wrap64; omega)), H', ⟨by have := HK1.out; omega⟩, ⟨by (with_reducible repeat (first | refine blk_drewN ?_ _ | refine blk_drew ?_ | refine blk_alloc ?_ _)); refine blk_put (cs := #[.int .u64 t890, .int .u64 t891, .int .u64 t892, .int .u64 x890003_1]) ?_ 3 _ rfl; (with_reducible repeat (first | refine blk_drewN ?_ _ | refine blk_drew ?_ | refine blk_alloc ?_ _)); refine blk_put (cs := #[.int .u64 t890, .int .u64 t891, .int .u64 x890002_1, .int .u64 x890003_1]) ?_ 2 _ rfl; (with_reducible repeat (first | refine blk_drewN ?_ _ | refine blk_drew ?_ | refine blk_alloc ?_ _)); refine blk_put (cs := #[.int .u64 t890, .int .u64 x890001_1, .int .u64 x890002_1, .int .u64 x890003_1]) ?_ 1 _ rfl; (with_reducible repeat (first | refine blk_drewN ?_ _ | refine blk_drew ?_ | refine blk_alloc ?_ _)); refine blk_put (cs := #[.int .u64 x890000_1, .int .u64 x890001_1, .int .u64 x890002_1, .int .u64 x890003_1]) ?_ 0 _ rfl; (with_reducible repeat (first | refine blk_drewN ?_ _ | refine blk_drew ?_ | refine blk_alloc ?_ _)); exact BK889.out⟩, ⟨by repeat (first | (with_reducible first | exact HB.out | apply below_alloc | apply pw_below_drewN | apply below_drew1 | refine below_set ?_ GE889.out) | exact HB.out)⟩⟩
    ·rw [if_neg c6] at H
     exact absurd H (by simp)
   ·rw [if_neg c5] at H
    have c5b0 : decide (x7_1 < (t888.size : Int)) = false := decide_eq_false c5
    clear c5
    replace H := Option.bind_eq_some_iff.mp H
    obtain ⟨⟨t895, t896, t897, t898⟩, A230, H⟩ := H
    replace H : ((scribelaw09_awake.f k1).bind fun t900 => (if t900 = true then ((regex_Set_Has.f x890000_1 x890001_1 x890002_1 x890003_1 a1).bind fun t901 => (if (t901 == x6_1) = true then ((regex_Set_Not.f x890000_1 x890001_1 x890002_1 x890003_1).bind fun bt902 => ((regex_Set_Has.f bt902.1 bt902.2.1 bt902.2.2.1 bt902.2.2.2 a1).bind fun t906 => (if (t906 == (!x6_1)) = true then ((regex_Set_Not.f x890000_1 x890001_1 x890002_1 x890003_1).bind fun bt907 => ((regex_Set_Not.f bt907.1 bt907.2.1 bt907.2.2.1 bt907.2.2.2).bind fun bt911 => (if (bt911.1 == x890000_1 && (bt911.2.1 == x890001_1 && (bt911.2.2.1 == x890002_1 && (bt911.2.2.2 == x890003_1)))) = true then ((regex_Print.f k1 1 x890000_1 x890001_1 x890002_1 x890003_1 ([] : List (S29))).bind fun t915 => ((scriberef09_Print.f k1 1 t888 ([] : List (S39))).bind fun t916 => (if t915.toList = t916.toList then ((regex_Print.f k1 1 t895 t896 t897 t898 ([] : List (S29))).bind fun t917 => ((scriberef09_Bytes.f k1 t888 true).bind fun t918 => ((scriberef09_Print.f k1 1 t918 ([] : List (S39))).bind fun t919 => (some (t917.toList == t919.toList))))) else (none)))) else (none)))) else (none)))) else (none))) else (none))) = some r := H
    have A23 := Aside0.mk A230
    clear A230
    replace H := Option.bind_eq_some_iff.mp H
    obtain ⟨t900, A240, H⟩ := H
    replace H : (if t900 = true then ((regex_Set_Has.f x890000_1 x890001_1 x890002_1 x890003_1 a1).bind fun t901 => (if (t901 == x6_1) = true then ((regex_Set_Not.f x890000_1 x890001_1 x890002_1 x890003_1).bind fun bt902 => ((regex_Set_Has.f bt902.1 bt902.2.1 bt902.2.2.1 bt902.2.2.2 a1).bind fun t906 => (if (t906 == (!x6_1)) = true then ((regex_Set_Not.f x890000_1 x890001_1 x890002_1 x890003_1).bind fun bt907 => ((regex_Set_Not.f bt907.1 bt907.2.1 bt907.2.2.1 bt907.2.2.2).bind fun bt911 => (if (bt911.1 == x890000_1 && (bt911.2.1 == x890001_1 && (bt911.2.2.1 == x890002_1 && (bt911.2.2.2 == x890003_1)))) = true then ((regex_Print.f k1 1 x890000_1 x890001_1 x890002_1 x890003_1 ([] : List (S29))).bind fun t915 => ((scriberef09_Print.f k1 1 t888 ([] : List (S39))).bind fun t916 => (if t915.toList = t916.toList then ((regex_Print.f k1 1 t895 t896 t897 t898 ([] : List (S29))).bind fun t917 => ((scriberef09_Bytes.f k1 t888 true).bind fun t918 => ((scriberef09_Print.f k1 1 t918 ([] : List (S39))).bind fun t919 => (some (t917.toList == t919.toList))))) else (none)))) else (none)))) else (none)))) else (none))) else (none)) = some r := H
    have A24 := Aside0.mk A240
    clear A240
    by_cases c25 : t900 = true
    ·subst c25
     have H1 : ((regex_Set_Has.f x890000_1 x890001_1 x890002_1 x890003_1 a1).bind fun t901 => (if (t901 == x6_1) = true then ((regex_Set_Not.f x890000_1 x890001_1 x890002_1 x890003_1).bind fun bt902 => ((regex_Set_Has.f bt902.1 bt902.2.1 bt902.2.2.1 bt902.2.2.2 a1).bind fun t906 => (if (t906 == (!x6_1)) = true then ((regex_Set_Not.f x890000_1 x890001_1 x890002_1 x890003_1).bind fun bt907 => ((regex_Set_Not.f bt907.1 bt907.2.1 bt907.2.2.1 bt907.2.2.2).bind fun bt911 => (if (bt911.1 == x890000_1 && (bt911.2.1 == x890001_1 && (bt911.2.2.1 == x890002_1 && (bt911.2.2.2 == x890003_1)))) = true then ((regex_Print.f k1 1 x890000_1 x890001_1 x890002_1 x890003_1 ([] : List (S29))).bind fun t915 => ((scriberef09_Print.f k1 1 t888 ([] : List (S39))).bind fun t916 => (if t915.toList = t916.toList then ((regex_Print.f k1 1 t895 t896 t897 t898 ([] : List (S29))).bind fun t917 => ((scriberef09_Bytes.f k1 t888 true).bind fun t918 => ((scriberef09_Print.f k1 1 t918 ([] : List (S39))).bind fun t919 => (some (t917.toList == t919.toList))))) else (none)))) else (none)))) else (none)))) else (none))) = some r := by rw [if_pos rfl] at H; exact H
     clear H
     have H := H1
     clear H1
     replace H := Option.bind_eq_some_iff.mp H
     obtain ⟨t901, A260, H⟩ := H
     replace H : (if (t901 == x6_1) = true then ((regex_Set_Not.f x890000_1 x890001_1 x890002_1 x890003_1).bind fun bt902 => ((regex_Set_Has.f bt902.1 bt902.2.1 bt902.2.2.1 bt902.2.2.2 a1).bind fun t906 => (if (t906 == (!x6_1)) = true then ((regex_Set_Not.f x890000_1 x890001_1 x890002_1 x890003_1).bind fun bt907 => ((regex_Set_Not.f bt907.1 bt907.2.1 bt907.2.2.1 bt907.2.2.2).bind fun bt911 => (if (bt911.1 == x890000_1 && (bt911.2.1 == x890001_1 && (bt911.2.2.1 == x890002_1 && (bt911.2.2.2 == x890003_1)))) = true then ((regex_Print.f k1 1 x890000_1 x890001_1 x890002_1 x890003_1 ([] : List (S29))).bind fun t915 => ((scriberef09_Print.f k1 1 t888 ([] : List (S39))).bind fun t916 => (if t915.toList = t916.toList then ((regex_Print.f k1 1 t895 t896 t897 t898 ([] : List (S29))).bind fun t917 => ((scriberef09_Bytes.f k1 t888 true).bind fun t918 => ((scriberef09_Print.f k1 1 t918 ([] : List (S39))).bind fun t919 => (some (t917.toList == t919.toList))))) else (none)))) else (none)))) else (none)))) else (none)) = some r := H
     have A26 := Aside0.mk A260
     clear A260
     by_cases c27 : (t901 == x6_1) = true
     ·rw [if_pos c27] at H
      have c27b0 : (t901 == x6_1) = true := c27
      (try (have c27b1 : decide (t901 = x6_1) = true := by simpa using c27))
      (try (have c27b2 : (t901 == x6_1) = true := by simpa using c27))
      clear c27
      replace H := Option.bind_eq_some_iff.mp H
      obtain ⟨⟨t902, t903, t904, t905⟩, A280, H⟩ := H
      replace H : ((regex_Set_Has.f t902 t903 t904 t905 a1).bind fun t906 => (if (t906 == (!x6_1)) = true then ((regex_Set_Not.f x890000_1 x890001_1 x890002_1 x890003_1).bind fun bt907 => ((regex_Set_Not.f bt907.1 bt907.2.1 bt907.2.2.1 bt907.2.2.2).bind fun bt911 => (if (bt911.1 == x890000_1 && (bt911.2.1 == x890001_1 && (bt911.2.2.1 == x890002_1 && (bt911.2.2.2 == x890003_1)))) = true then ((regex_Print.f k1 1 x890000_1 x890001_1 x890002_1 x890003_1 ([] : List (S29))).bind fun t915 => ((scriberef09_Print.f k1 1 t888 ([] : List (S39))).bind fun t916 => (if t915.toList = t916.toList then ((regex_Print.f k1 1 t895 t896 t897 t898 ([] : List (S29))).bind fun t917 => ((scriberef09_Bytes.f k1 t888 true).bind fun t918 => ((scriberef09_Print.f k1 1 t918 ([] : List (S39))).bind fun t919 => (some (t917.toList == t919.toList))))) else (none)))) else (none)))) else (none))) = some r := H
      have A28 := Aside0.mk A280
      clear A280
      replace H := Option.bind_eq_some_iff.mp H
      obtain ⟨t906, A290, H⟩ := H
      replace H : (if (t906 == (!x6_1)) = true then ((regex_Set_Not.f x890000_1 x890001_1 x890002_1 x890003_1).bind fun bt907 => ((regex_Set_Not.f bt907.1 bt907.2.1 bt907.2.2.1 bt907.2.2.2).bind fun bt911 => (if (bt911.1 == x890000_1 && (bt911.2.1 == x890001_1 && (bt911.2.2.1 == x890002_1 && (bt911.2.2.2 == x890003_1)))) = true then ((regex_Print.f k1 1 x890000_1 x890001_1 x890002_1 x890003_1 ([] : List (S29))).bind fun t915 => ((scriberef09_Print.f k1 1 t888 ([] : List (S39))).bind fun t916 => (if t915.toList = t916.toList then ((regex_Print.f k1 1 t895 t896 t897 t898 ([] : List (S29))).bind fun t917 => ((scriberef09_Bytes.f k1 t888 true).bind fun t918 => ((scriberef09_Print.f k1 1 t918 ([] : List (S39))).bind fun t919 => (some (t917.toList == t919.toList))))) else (none)))) else (none)))) else (none)) = some r := H
      have A29 := Aside0.mk A290
      clear A290
      by_cases c30 : (t906 == (!x6_1)) = true
      ·rw [if_pos c30] at H
       have c30b0 : (t906 == (!x6_1)) = true := c30
       (try (have c30b1 : decide (t906 = (!x6_1)) = true := by simpa using c30))
       (try (have c30b2 : (t906 == (!x6_1)) = true := by simpa using c30))
       clear c30
       replace H := Option.bind_eq_some_iff.mp H
       obtain ⟨⟨t907, t908, t909, t910⟩, A310, H⟩ := H
       replace H : ((regex_Set_Not.f t907 t908 t909 t910).bind fun bt911 => (if (bt911.1 == x890000_1 && (bt911.2.1 == x890001_1 && (bt911.2.2.1 == x890002_1 && (bt911.2.2.2 == x890003_1)))) = true then ((regex_Print.f k1 1 x890000_1 x890001_1 x890002_1 x890003_1 ([] : List (S29))).bind fun t915 => ((scriberef09_Print.f k1 1 t888 ([] : List (S39))).bind fun t916 => (if t915.toList = t916.toList then ((regex_Print.f k1 1 t895 t896 t897 t898 ([] : List (S29))).bind fun t917 => ((scriberef09_Bytes.f k1 t888 true).bind fun t918 => ((scriberef09_Print.f k1 1 t918 ([] : List (S39))).bind fun t919 => (some (t917.toList == t919.toList))))) else (none)))) else (none))) = some r := H
       have A31 := Aside0.mk A310
       clear A310
       replace H := Option.bind_eq_some_iff.mp H
       obtain ⟨⟨t911, t912, t913, t914⟩, A320, H⟩ := H
       replace H : (if (t911 == x890000_1 && (t912 == x890001_1 && (t913 == x890002_1 && (t914 == x890003_1)))) = true then ((regex_Print.f k1 1 x890000_1 x890001_1 x890002_1 x890003_1 ([] : List (S29))).bind fun t915 => ((scriberef09_Print.f k1 1 t888 ([] : List (S39))).bind fun t916 => (if t915.toList = t916.toList then ((regex_Print.f k1 1 t895 t896 t897 t898 ([] : List (S29))).bind fun t917 => ((scriberef09_Bytes.f k1 t888 true).bind fun t918 => ((scriberef09_Print.f k1 1 t918 ([] : List (S39))).bind fun t919 => (some (t917.toList == t919.toList))))) else (none)))) else (none)) = some r := H
       have A32 := Aside0.mk A320
       clear A320
       by_cases c33 : (t911 == x890000_1 && (t912 == x890001_1 && (t913 == x890002_1 && (t914 == x890003_1)))) = true
       ·rw [if_pos c33] at H
        have c33b0 : (t911 == x890000_1 && (t912 == x890001_1 && (t913 == x890002_1 && (t914 == x890003_1)))) = true := c33
        (try (have c33b1 : decide (t911 = x890000_1 && (t912 == x890001_1 && (t913 == x890002_1 && (t914 == x890003_1)))) = true := by simpa using c33))
        (try (have c33b2 : (t911 == x890000_1 && (t912 == x890001_1 && (t913 == x890002_1 && (t914 == x890003_1)))) = true := by simpa using c33))
        clear c33
        replace H := Option.bind_eq_some_iff.mp H
        obtain ⟨t915, A340, H⟩ := H
        replace H : ((scriberef09_Print.f k1 1 t888 ([] : List (S39))).bind fun t916 => (if t915.toList = t916.toList then ((regex_Print.f k1 1 t895 t896 t897 t898 ([] : List (S29))).bind fun t917 => ((scriberef09_Bytes.f k1 t888 true).bind fun t918 => ((scriberef09_Print.f k1 1 t918 ([] : List (S39))).bind fun t919 => (some (t917.toList == t919.toList))))) else (none))) = some r := H
        have A34 := Aside0.mk A340
        clear A340
        replace H := Option.bind_eq_some_iff.mp H
        obtain ⟨t916, A350, H⟩ := H
        replace H : (if t915.toList = t916.toList then ((regex_Print.f k1 1 t895 t896 t897 t898 ([] : List (S29))).bind fun t917 => ((scriberef09_Bytes.f k1 t888 true).bind fun t918 => ((scriberef09_Print.f k1 1 t918 ([] : List (S39))).bind fun t919 => (some (t917.toList == t919.toList))))) else (none)) = some r := H
        have A35 := Aside0.mk A350
        clear A350
        by_cases c36 : t915.toList = t916.toList
        ·rw [if_pos c36] at H
         have c36b0 : (t915.toList == t916.toList) = true := beq_iff_eq.mpr c36
         have c36b1 : (t915.toList != t916.toList) = false := bne_eq_false_iff_eq.mpr c36
         clear c36
         replace H := Option.bind_eq_some_iff.mp H
         obtain ⟨t917, A370, H⟩ := H
         replace H : ((scriberef09_Bytes.f k1 t888 true).bind fun t918 => ((scriberef09_Print.f k1 1 t918 ([] : List (S39))).bind fun t919 => (some (t917.toList == t919.toList)))) = some r := H
         have A37 := Aside0.mk A370
         clear A370
         replace H := Option.bind_eq_some_iff.mp H
         obtain ⟨t918, A380, H⟩ := H
         replace H : ((scriberef09_Print.f k1 1 t918 ([] : List (S39))).bind fun t919 => (some (t917.toList == t919.toList))) = some r := H
         have A38 := Aside0.mk A380
         clear A380
         replace H := Option.bind_eq_some_iff.mp H
         obtain ⟨t919, A390, H⟩ := H
         replace H : (some (t917.toList == t919.toList)) = some r := H
         have A39 := Aside0.mk A390
         clear A390
         obtain rfl := Option.some.inj H
         have hcz40_0 : wr.cell? ⟨gb889, 0, none⟩ = some (.int .u64 x890000_1) := (blk_cell BK889.out 0).trans rfl
         have hcz40_1 : wr.cell? ⟨gb889, 1, none⟩ = some (.int .u64 x890001_1) := (blk_cell BK889.out 1).trans rfl
         have hcz40_2 : wr.cell? ⟨gb889, 2, none⟩ = some (.int .u64 x890002_1) := (blk_cell BK889.out 2).trans rfl
         have hcz40_3 : wr.cell? ⟨gb889, 3, none⟩ = some (.int .u64 x890003_1) := (blk_cell BK889.out 3).trans rfl
         have hfz40_0 := blk_frozen BK889.out 0
         have hfz40_1 := blk_frozen BK889.out 1
         have hfz40_2 := blk_frozen BK889.out 2
         have hfz40_3 := blk_frozen BK889.out 3
         try go_wp2_with (first | ((with_reducible refine gate_dst (N := 8) rfl ?_); refine box_event ?hg (N := 8) ?hd (cs := #[.int .i64 0, .int .u64 0, .int .u64 0, .int .u64 0, .int .u64 0, .slice none 0 0]) (t := 29) ?hr ?_; (case hd => rfl); (case hg => rfl); (case hr => first | (go_simp; done) | (go_simp; rfl)); intro gb894 hg w41 hbox hb; have n0_ := Aside0.mk (blk_below (g := gb889) (o := .cells #[.int .u64 x890000_1, .int .u64 x890001_1, .int .u64 x890002_1, .int .u64 x890003_1] 26 (0, 0)) (by (with_reducible repeat (first | refine blk_drewN ?_ _ | refine blk_drew ?_ | refine blk_alloc ?_ _)); exact BK889.out) hb); have n1_ := Aside0.mk (below_step (by repeat (first | (with_reducible first | exact HB.out | apply below_alloc | apply pw_below_drewN | apply below_drew1 | refine below_set ?_ GE889.out) | exact HB.out)) hb); have n2_ := Aside0.mk (hbox); have n3_ := Aside0.mk ((by rw [hg]; exact (below_size (by repeat (first | (with_reducible first | exact HB.out | apply below_alloc | apply pw_below_drewN | apply below_drew1 | refine below_set ?_ GE889.out) | exact HB.out))) : w.heap.size ≤ gb894)); have n4_ := Aside0.mk ((by rw [hg]; exact (below_size (by repeat (first | (with_reducible first | exact HB.out | apply below_alloc | apply pw_below_drewN | apply below_drew1 | refine below_set ?_ GE889.out) | exact HB.out))) : w.heap.size ≤ gb894)); have n5_ := Aside0.mk ((by rw [hg]; exact Nat.ne_of_lt (blk_lt (g := gb889) (o := .cells #[.int .u64 x890000_1, .int .u64 x890001_1, .int .u64 x890002_1, .int .u64 x890003_1] 26 (0, 0)) (by (with_reducible repeat (first | refine blk_drewN ?_ _ | refine blk_drew ?_ | refine blk_alloc ?_ _)); exact BK889.out)) : gb889 ≠ gb894)); have n6_ := Aside0.mk ((by rw [hg]; exact Nat.ne_of_gt (blk_lt (g := gb889) (o := .cells #[.int .u64 x890000_1, .int .u64 x890001_1, .int .u64 x890002_1, .int .u64 x890003_1] 26 (0, 0)) (by (with_reducible repeat (first | refine blk_drewN ?_ _ | refine blk_drew ?_ | refine blk_alloc ?_ _)); exact BK889.out)) : gb894 ≠ gb889)); clear BK889; clear HB; have BK889 := n0_; have HB := n1_; have BK894 := n2_; have GW894 := n3_; have GE894 := n4_; have NB889_894 := n5_; have NB894_889 := n6_; clear n0_ n1_ n2_ n3_ n4_ n5_ n6_; clear hb hbox hg; have hnb42 := NB894_889.out; have hnc42 := NB889_894.out; have hcz43_0 : w41.cell? ⟨gb894, 0, none⟩ = some (.int .i64 0) := (blk_cell BK894.out 0).trans rfl; have hcz43_1 : w41.cell? ⟨gb894, 1, none⟩ = some (.int .u64 0) := (blk_cell BK894.out 1).trans rfl; have hcz43_2 : w41.cell? ⟨gb894, 2, none⟩ = some (.int .u64 0) := (blk_cell BK894.out 2).trans rfl; have hcz43_3 : w41.cell? ⟨gb894, 3, none⟩ = some (.int .u64 0) := (blk_cell BK894.out 3).trans rfl; have hcz43_4 : w41.cell? ⟨gb894, 4, none⟩ = some (.int .u64 0) := (blk_cell BK894.out 4).trans rfl; have hcz43_5 : w41.cell? ⟨gb894, 5, none⟩ = some (.slice none 0 0) := (blk_cell BK894.out 5).trans rfl; have hfz43_0 := blk_frozen BK894.out 0; have hfz43_1 := blk_frozen BK894.out 1; have hfz43_2 := blk_frozen BK894.out 2; have hfz43_3 := blk_frozen BK894.out 3; have hfz43_4 := blk_frozen BK894.out 4; have hfz43_5 := blk_frozen BK894.out 5; have hcz44_0 : w41.cell? ⟨gb889, 0, none⟩ = some (.int .u64 x890000_1) := (blk_cell BK889.out 0).trans rfl; have hcz44_1 : w41.cell? ⟨gb889, 1, none⟩ = some (.int .u64 x890001_1) := (blk_cell BK889.out 1).trans rfl; have hcz44_2 : w41.cell? ⟨gb889, 2, none⟩ = some (.int .u64 x890002_1) := (blk_cell BK889.out 2).trans rfl; have hcz44_3 : w41.cell? ⟨gb889, 3, none⟩ = some (.int .u64 x890003_1) := (blk_cell BK889.out 3).trans rfl; have hfz44_0 := blk_frozen BK889.out 0; have hfz44_1 := blk_frozen BK889.out 1; have hfz44_2 := blk_frozen BK889.out 2; have hfz44_3 := blk_frozen BK889.out 3) | ((with_reducible refine gate_callee (f := 13) rfl ?_); refine goesL_ (some 34) rfl rfl Try.func13 (by kernel_rfl) rfl #[.agg #[.int .u64 x890000_1, .int .u64 x890001_1, .int .u64 x890002_1, .int .u64 x890003_1]] rfl (by (try simp only [List.map_toArray, List.map_cons, List.map_nil]); first | done | rfl | (simp only [List.length_drop, List.length_take]; rfl)) ?_; (with_reducible refine (regex_Set_Not.calls x890000_1 x890001_1 x890002_1 x890003_1 t895 t896 t897 t898 _ ?side1 A23.out).mono ?_); (case side1 => exact TB.below hT (by repeat (first | (with_reducible first | exact HB.out | apply below_alloc | apply pw_below_drewN | apply below_drew1 | refine below_set ?_ GE889.out | refine below_set ?_ GE894.out) | exact HB.out))); rintro e w45 ⟨rfl, hb⟩; refine ⟨_, rfl, ?_⟩; have n0_ := Aside0.mk (blk_below (g := gb889) (o := .cells #[.int .u64 x890000_1, .int .u64 x890001_1, .int .u64 x890002_1, .int .u64 x890003_1] 26 (0, 0)) (by (with_reducible repeat (first | refine blk_drewN ?_ _ | refine blk_drew ?_ | refine blk_alloc ?_ _)); refine blk_far ?_ NB889_894.out _; (with_reducible repeat (first | refine blk_drewN ?_ _ | refine blk_drew ?_ | refine blk_alloc ?_ _)); refine blk_far ?_ NB889_894.out _; (with_reducible repeat (first | refine blk_drewN ?_ _ | refine blk_drew ?_ | refine blk_alloc ?_ _)); refine blk_far ?_ NB889_894.out _; (with_reducible repeat (first | refine blk_drewN ?_ _ | refine blk_drew ?_ | refine blk_alloc ?_ _)); refine blk_far ?_ NB889_894.out _; (with_reducible repeat (first | refine blk_drewN ?_ _ | refine blk_drew ?_ | refine blk_alloc ?_ _)); refine blk_far ?_ NB889_894.out _; (with_reducible repeat (first | refine blk_drewN ?_ _ | refine blk_drew ?_ | refine blk_alloc ?_ _)); refine blk_far ?_ NB889_894.out _; (with_reducible repeat (first | refine blk_drewN ?_ _ | refine blk_drew ?_ | refine blk_alloc ?_ _)); exact BK889.out) hb); have n1_ := Aside0.mk (blk_below (g := gb894) (o := .cells #[.int .i64 1, .int .u64 x890000_1, .int .u64 x890001_1, .int .u64 x890002_1, .int .u64 x890003_1, .slice none 0 0] 29 (0, 0)) (by (with_reducible repeat (first | refine blk_drewN ?_ _ | refine blk_drew ?_ | refine blk_alloc ?_ _)); refine blk_put (cs := #[.int .i64 1, .int .u64 x890000_1, .int .u64 x890001_1, .int .u64 x890002_1, .int .u64 x890003_1, .slice none 0 0]) ?_ 5 _ rfl; (with_reducible repeat (first | refine blk_drewN ?_ _ | refine blk_drew ?_ | refine blk_alloc ?_ _)); refine blk_put (cs := #[.int .i64 1, .int .u64 x890000_1, .int .u64 x890001_1, .int .u64 x890002_1, .int .u64 0, .slice none 0 0]) ?_ 4 _ rfl; (with_reducible repeat (first | refine blk_drewN ?_ _ | refine blk_drew ?_ | refine blk_alloc ?_ _)); refine blk_put (cs := #[.int .i64 1, .int .u64 x890000_1, .int .u64 x890001_1, .int .u64 0, .int .u64 0, .slice none 0 0]) ?_ 3 _ rfl; (with_reducible repeat (first | refine blk_drewN ?_ _ | refine blk_drew ?_ | refine blk_alloc ?_ _)); refine blk_put (cs := #[.int .i64 1, .int .u64 x890000_1, .int .u64 0, .int .u64 0, .int .u64 0, .slice none 0 0]) ?_ 2 _ rfl; (with_reducible repeat (first | refine blk_drewN ?_ _ | refine blk_drew ?_ | refine blk_alloc ?_ _)); refine blk_put (cs := #[.int .i64 1, .int .u64 0, .int .u64 0, .int .u64 0, .int .u64 0, .slice none 0 0]) ?_ 1 _ rfl; (with_reducible repeat (first | refine blk_drewN ?_ _ | refine blk_drew ?_ | refine blk_alloc ?_ _)); refine blk_put (cs := #[.int .i64 0, .int .u64 0, .int .u64 0, .int .u64 0, .int .u64 0, .slice none 0 0]) ?_ 0 _ rfl; (with_reducible repeat (first | refine blk_drewN ?_ _ | refine blk_drew ?_ | refine blk_alloc ?_ _)); exact BK894.out) hb); have n2_ := Aside0.mk (below_step (by repeat (first | (with_reducible first | exact HB.out | apply below_alloc | apply pw_below_drewN | apply below_drew1 | refine below_set ?_ GE889.out | refine below_set ?_ GE894.out) | exact HB.out)) hb); clear BK889; clear BK894; clear HB; have BK889 := n0_; have BK894 := n1_; have HB := n2_; clear n0_ n1_ n2_; (try clear hb); (try clear hb2); (try clear hk); (try clear hi)) | ((with_reducible refine gate_dst (N := 9) rfl ?_); refine box_event ?hg (N := 9) ?hd (cs := #[.int .i64 0, .int .u64 0, .int .u64 0, .int .u64 0, .int .u64 0, .slice none 0 0]) (t := 29) ?hr ?_; (case hd => rfl); (case hg => rfl); (case hr => first | (go_simp; done) | (go_simp; rfl)); intro gb899 hg w46 hbox hb; have n0_ := Aside0.mk (blk_below (g := gb889) (o := .cells #[.int .u64 x890000_1, .int .u64 x890001_1, .int .u64 x890002_1, .int .u64 x890003_1] 26 (0, 0)) (by (with_reducible repeat (first | refine blk_drewN ?_ _ | refine blk_drew ?_ | refine blk_alloc ?_ _)); exact BK889.out) hb); have n1_ := Aside0.mk (blk_below (g := gb894) (o := .cells #[.int .i64 1, .int .u64 x890000_1, .int .u64 x890001_1, .int .u64 x890002_1, .int .u64 x890003_1, .slice none 0 0] 29 (0, 0)) (by (with_reducible repeat (first | refine blk_drewN ?_ _ | refine blk_drew ?_ | refine blk_alloc ?_ _)); exact BK894.out) hb); have n2_ := Aside0.mk (below_step (by repeat (first | (with_reducible first | exact HB.out | apply below_alloc | apply pw_below_drewN | apply below_drew1 | refine below_set ?_ GE889.out | refine below_set ?_ GE894.out) | exact HB.out)) hb); have n3_ := Aside0.mk (hbox); have n4_ := Aside0.mk ((by rw [hg]; exact (below_size (by repeat (first | (with_reducible first | exact HB.out | apply below_alloc | apply pw_below_drewN | apply below_drew1 | refine below_set ?_ GE889.out | refine below_set ?_ GE894.out) | exact HB.out))) : w.heap.size ≤ gb899)); have n5_ := Aside0.mk ((by rw [hg]; exact (below_size (by repeat (first | (with_reducible first | exact HB.out | apply below_alloc | apply pw_below_drewN | apply below_drew1 | refine below_set ?_ GE889.out | refine below_set ?_ GE894.out) | exact HB.out))) : w.heap.size ≤ gb899)); have n6_ := Aside0.mk ((by rw [hg]; exact Nat.ne_of_lt (blk_lt (g := gb889) (o := .cells #[.int .u64 x890000_1, .int .u64 x890001_1, .int .u64 x890002_1, .int .u64 x890003_1] 26 (0, 0)) (by (with_reducible repeat (first | refine blk_drewN ?_ _ | refine blk_drew ?_ | refine blk_alloc ?_ _)); exact BK889.out)) : gb889 ≠ gb899)); have n7_ := Aside0.mk ((by rw [hg]; exact Nat.ne_of_gt (blk_lt (g := gb889) (o := .cells #[.int .u64 x890000_1, .int .u64 x890001_1, .int .u64 x890002_1, .int .u64 x890003_1] 26 (0, 0)) (by (with_reducible repeat (first | refine blk_drewN ?_ _ | refine blk_drew ?_ | refine blk_alloc ?_ _)); exact BK889.out)) : gb899 ≠ gb889)); have n8_ := Aside0.mk ((by rw [hg]; exact Nat.ne_of_lt (blk_lt (g := gb894) (o := .cells #[.int .i64 1, .int .u64 x890000_1, .int .u64 x890001_1, .int .u64 x890002_1, .int .u64 x890003_1, .slice none 0 0] 29 (0, 0)) (by (with_reducible repeat (first | refine blk_drewN ?_ _ | refine blk_drew ?_ | refine blk_alloc ?_ _)); exact BK894.out)) : gb894 ≠ gb899)); have n9_ := Aside0.mk ((by rw [hg]; exact Nat.ne_of_gt (blk_lt (g := gb894) (o := .cells #[.int .i64 1, .int .u64 x890000_1, .int .u64 x890001_1, .int .u64 x890002_1, .int .u64 x890003_1, .slice none 0 0] 29 (0, 0)) (by (with_reducible repeat (first | refine blk_drewN ?_ _ | refine blk_drew ?_ | refine blk_alloc ?_ _)); exact BK894.out)) : gb899 ≠ gb894)); clear BK889; clear BK894; clear HB; have BK889 := n0_; have BK894 := n1_; have HB := n2_; have BK899 := n3_; have GW899 := n4_; have GE899 := n5_; have NB889_899 := n6_; have NB899_889 := n7_; have NB894_899 := n8_; have NB899_894 := n9_; clear n0_ n1_ n2_ n3_ n4_ n5_ n6_ n7_ n8_ n9_; clear hb hbox hg; have hnb47 := NB899_889.out; have hnc47 := NB889_899.out; have hnb48 := NB899_894.out; have hnc48 := NB894_899.out; have hcz49_0 : w46.cell? ⟨gb899, 0, none⟩ = some (.int .i64 0) := (blk_cell BK899.out 0).trans rfl; have hcz49_1 : w46.cell? ⟨gb899, 1, none⟩ = some (.int .u64 0) := (blk_cell BK899.out 1).trans rfl; have hcz49_2 : w46.cell? ⟨gb899, 2, none⟩ = some (.int .u64 0) := (blk_cell BK899.out 2).trans rfl; have hcz49_3 : w46.cell? ⟨gb899, 3, none⟩ = some (.int .u64 0) := (blk_cell BK899.out 3).trans rfl; have hcz49_4 : w46.cell? ⟨gb899, 4, none⟩ = some (.int .u64 0) := (blk_cell BK899.out 4).trans rfl; have hcz49_5 : w46.cell? ⟨gb899, 5, none⟩ = some (.slice none 0 0) := (blk_cell BK899.out 5).trans rfl; have hfz49_0 := blk_frozen BK899.out 0; have hfz49_1 := blk_frozen BK899.out 1; have hfz49_2 := blk_frozen BK899.out 2; have hfz49_3 := blk_frozen BK899.out 3; have hfz49_4 := blk_frozen BK899.out 4; have hfz49_5 := blk_frozen BK899.out 5))
         have n0_ : Aside0 (((((((w46.setCell ⟨gb899, 0, none⟩ (.int .i64 1)).setCell ⟨gb899, 1, none⟩ (.int .u64 t895)).setCell ⟨gb899, 2, none⟩ (.int .u64 t896)).setCell ⟨gb899, 3, none⟩ (.int .u64 t897)).setCell ⟨gb899, 4, none⟩ (.int .u64 t898)).setCell ⟨gb899, 5, none⟩ (.slice none 0 0)).heap[gb889]? = some (.cells #[.int .u64 x890000_1, .int .u64 x890001_1, .int .u64 x890002_1, .int .u64 x890003_1] 26 (0, 0))) := ⟨by (with_reducible repeat (first | refine blk_drewN ?_ _ | refine blk_drew ?_ | refine blk_alloc ?_ _)); refine blk_far ?_ NB889_899.out _; (with_reducible repeat (first | refine blk_drewN ?_ _ | refine blk_drew ?_ | refine blk_alloc ?_ _)); refine blk_far ?_ NB889_899.out _; (with_reducible repeat (first | refine blk_drewN ?_ _ | refine blk_drew ?_ | refine blk_alloc ?_ _)); refine blk_far ?_ NB889_899.out _; (with_reducible repeat (first | refine blk_drewN ?_ _ | refine blk_drew ?_ | refine blk_alloc ?_ _)); refine blk_far ?_ NB889_899.out _; (with_reducible repeat (first | refine blk_drewN ?_ _ | refine blk_drew ?_ | refine blk_alloc ?_ _)); refine blk_far ?_ NB889_899.out _; (with_reducible repeat (first | refine blk_drewN ?_ _ | refine blk_drew ?_ | refine blk_alloc ?_ _)); refine blk_far ?_ NB889_899.out _; (with_reducible repeat (first | refine blk_drewN ?_ _ | refine blk_drew ?_ | refine blk_alloc ?_ _)); exact BK889.out⟩
         have n1_ : Aside0 (((((((w46.setCell ⟨gb899, 0, none⟩ (.int .i64 1)).setCell ⟨gb899, 1, none⟩ (.int .u64 t895)).setCell ⟨gb899, 2, none⟩ (.int .u64 t896)).setCell ⟨gb899, 3, none⟩ (.int .u64 t897)).setCell ⟨gb899, 4, none⟩ (.int .u64 t898)).setCell ⟨gb899, 5, none⟩ (.slice none 0 0)).heap[gb894]? = some (.cells #[.int .i64 1, .int .u64 x890000_1, .int .u64 x890001_1, .int .u64 x890002_1, .int .u64 x890003_1, .slice none 0 0] 29 (0, 0))) := ⟨by (with_reducible repeat (first | refine blk_drewN ?_ _ | refine blk_drew ?_ | refine blk_alloc ?_ _)); refine blk_far ?_ NB894_899.out _; (with_reducible repeat (first | refine blk_drewN ?_ _ | refine blk_drew ?_ | refine blk_alloc ?_ _)); refine blk_far ?_ NB894_899.out _; (with_reducible repeat (first | refine blk_drewN ?_ _ | refine blk_drew ?_ | refine blk_alloc ?_ _)); refine blk_far ?_ NB894_899.out _; (with_reducible repeat (first | refine blk_drewN ?_ _ | refine blk_drew ?_ | refine blk_alloc ?_ _)); refine blk_far ?_ NB894_899.out _; (with_reducible repeat (first | refine blk_drewN ?_ _ | refine blk_drew ?_ | refine blk_alloc ?_ _)); refine blk_far ?_ NB894_899.out _; (with_reducible repeat (first | refine blk_drewN ?_ _ | refine blk_drew ?_ | refine blk_alloc ?_ _)); refine blk_far ?_ NB894_899.out _; (with_reducible repeat (first | refine blk_drewN ?_ _ | refine blk_drew ?_ | refine blk_alloc ?_ _)); exact BK894.out⟩
         have n2_ : Aside0 (((((((w46.setCell ⟨gb899, 0, none⟩ (.int .i64 1)).setCell ⟨gb899, 1, none⟩ (.int .u64 t895)).setCell ⟨gb899, 2, none⟩ (.int .u64 t896)).setCell ⟨gb899, 3, none⟩ (.int .u64 t897)).setCell ⟨gb899, 4, none⟩ (.int .u64 t898)).setCell ⟨gb899, 5, none⟩ (.slice none 0 0)).heap[gb899]? = some (.cells #[.int .i64 1, .int .u64 t895, .int .u64 t896, .int .u64 t897, .int .u64 t898, .slice none 0 0] 29 (0, 0))) := ⟨by (with_reducible repeat (first | refine blk_drewN ?_ _ | refine blk_drew ?_ | refine blk_alloc ?_ _)); refine blk_put (cs := #[.int .i64 1, .int .u64 t895, .int .u64 t896, .int .u64 t897, .int .u64 t898, .slice none 0 0]) ?_ 5 _ rfl; (with_reducible repeat (first | refine blk_drewN ?_ _ | refine blk_drew ?_ | refine blk_alloc ?_ _)); refine blk_put (cs := #[.int .i64 1, .int .u64 t895, .int .u64 t896, .int .u64 t897, .int .u64 0, .slice none 0 0]) ?_ 4 _ rfl; (with_reducible repeat (first | refine blk_drewN ?_ _ | refine blk_drew ?_ | refine blk_alloc ?_ _)); refine blk_put (cs := #[.int .i64 1, .int .u64 t895, .int .u64 t896, .int .u64 0, .int .u64 0, .slice none 0 0]) ?_ 3 _ rfl; (with_reducible repeat (first | refine blk_drewN ?_ _ | refine blk_drew ?_ | refine blk_alloc ?_ _)); refine blk_put (cs := #[.int .i64 1, .int .u64 t895, .int .u64 0, .int .u64 0, .int .u64 0, .slice none 0 0]) ?_ 2 _ rfl; (with_reducible repeat (first | refine blk_drewN ?_ _ | refine blk_drew ?_ | refine blk_alloc ?_ _)); refine blk_put (cs := #[.int .i64 1, .int .u64 0, .int .u64 0, .int .u64 0, .int .u64 0, .slice none 0 0]) ?_ 1 _ rfl; (with_reducible repeat (first | refine blk_drewN ?_ _ | refine blk_drew ?_ | refine blk_alloc ?_ _)); refine blk_put (cs := #[.int .i64 0, .int .u64 0, .int .u64 0, .int .u64 0, .int .u64 0, .slice none 0 0]) ?_ 0 _ rfl; (with_reducible repeat (first | refine blk_drewN ?_ _ | refine blk_drew ?_ | refine blk_alloc ?_ _)); exact BK899.out⟩
         have n3_ : Aside0 (Below w.heap.size w ((((((w46.setCell ⟨gb899, 0, none⟩ (.int .i64 1)).setCell ⟨gb899, 1, none⟩ (.int .u64 t895)).setCell ⟨gb899, 2, none⟩ (.int .u64 t896)).setCell ⟨gb899, 3, none⟩ (.int .u64 t897)).setCell ⟨gb899, 4, none⟩ (.int .u64 t898)).setCell ⟨gb899, 5, none⟩ (.slice none 0 0))) := ⟨by repeat (first | (with_reducible first | exact HB.out | apply below_alloc | apply pw_below_drewN | apply below_drew1 | refine below_set ?_ GE889.out | refine below_set ?_ GE894.out | refine below_set ?_ GE899.out) | exact HB.out)⟩
         (try clear BK889)
         (try clear BK894)
         (try clear BK899)
         (try clear HB)
         generalize ((((((w46.setCell ⟨gb899, 0, none⟩ (.int .i64 1)).setCell ⟨gb899, 1, none⟩ (.int .u64 t895)).setCell ⟨gb899, 2, none⟩ (.int .u64 t896)).setCell ⟨gb899, 3, none⟩ (.int .u64 t897)).setCell ⟨gb899, 4, none⟩ (.int .u64 t898)).setCell ⟨gb899, 5, none⟩ (.slice none 0 0)) = w50 at n0_ n1_ n2_ n3_ ⊢
         have BK889 := n0_
         have BK894 := n1_
         have BK899 := n2_
         have HB := n3_
         clear n0_ n1_ n2_ n3_
         have n0_ := Aside0.mk (blk_drew BK889.out)
         have n1_ := Aside0.mk (blk_drew BK894.out)
         have n2_ := Aside0.mk (blk_drew BK899.out)
         have n3_ := Aside0.mk (below_drew1 HB.out)
         clear BK889
         clear BK894
         clear BK899
         clear HB
         have BK889 := n0_
         have BK894 := n1_
         have BK899 := n2_
         have HB := n3_
         clear n0_ n1_ n2_ n3_
         refine start_ (n := 42) (S := fun w' => w'.cell? ⟨gb889, 0, none⟩ = some (.int .u64 x890000_1) ∧ w'.cell? ⟨gb889, 1, none⟩ = some (.int .u64 x890001_1) ∧ w'.cell? ⟨gb889, 2, none⟩ = some (.int .u64 x890002_1) ∧ w'.cell? ⟨gb889, 3, none⟩ = some (.int .u64 x890003_1) ∧ w'.cell? ⟨gb894, 0, none⟩ = some (.int .i64 1) ∧ w'.cell? ⟨gb894, 1, none⟩ = some (.int .u64 x890000_1) ∧ w'.cell? ⟨gb894, 2, none⟩ = some (.int .u64 x890001_1) ∧ w'.cell? ⟨gb894, 3, none⟩ = some (.int .u64 x890002_1) ∧ w'.cell? ⟨gb894, 4, none⟩ = some (.int .u64 x890003_1) ∧ w'.cell? ⟨gb894, 5, none⟩ = some (.slice none 0 0) ∧ w'.cell? ⟨gb899, 0, none⟩ = some (.int .i64 1) ∧ w'.cell? ⟨gb899, 1, none⟩ = some (.int .u64 t895) ∧ w'.cell? ⟨gb899, 2, none⟩ = some (.int .u64 t896) ∧ w'.cell? ⟨gb899, 3, none⟩ = some (.int .u64 t897) ∧ w'.cell? ⟨gb899, 4, none⟩ = some (.int .u64 t898) ∧ w'.cell? ⟨gb899, 5, none⟩ = some (.slice none 0 0)) (ds := []) #[ff,ff,ff,ff,ff,ff,ff,ff,ff,ff,ff,ff,ff,ff,ff,ff,ff,ff,ff,ff,ff,ff,ff,ff,ff,ff,ff,ff,ff,ff,ff,ff,ff,ff,ff,ff,ff,ff,ff,ff,ff,ff] (by kernel_rfl) rfl rfl ⟨(blk_cell BK889.out 0).trans rfl, (blk_cell BK889.out 1).trans rfl, (blk_cell BK889.out 2).trans rfl, (blk_cell BK889.out 3).trans rfl, (blk_cell BK894.out 0).trans rfl, (blk_cell BK894.out 1).trans rfl, (blk_cell BK894.out 2).trans rfl, (blk_cell BK894.out 3).trans rfl, (blk_cell BK894.out 4).trans rfl, (blk_cell BK894.out 5).trans rfl, (blk_cell BK899.out 0).trans rfl, (blk_cell BK899.out 1).trans rfl, (blk_cell BK899.out 2).trans rfl, (blk_cell BK899.out 3).trans rfl, (blk_cell BK899.out 4).trans rfl, (blk_cell BK899.out 5).trans rfl⟩ (fun hHeld => ?_); refine with_tabW scribelaw09_RegexSets.tab11 scribelaw09_RegexSets.bits11 (fun HT_ HW_ => ?_)
         generalize w50.drew = w51 at BK889 BK894 BK899 HB hHeld ⊢
         refine one_ (i := 0) (N := some 36) #[tt,ff,ff,ff,ff,ff,ff,ff,ff,ff,ff,ff,ff,ff,ff,ff,ff,ff,ff,ff,ff,ff,ff,ff,ff,ff,ff,ff,ff,ff,ff,ff,ff,ff,ff,ff,ff,ff,ff,ff,ff,ff] rfl rfl (one_of HT_.out (by kernel_rfl)) (by decide) (fun K hK => ?_)
         refine goes_ Try.func11 (by kernel_rfl) rfl #[] (by rfl) rfl rfl (by (try simp only [List.map_toArray, List.map_cons, List.map_nil]); first | done | rfl | (simp only [List.length_drop, List.length_take]; rfl)) ?_
         with_reducible refine (scribelaw09_awake.calls k1  true _ ?side1 A24.out).mono ?_
         (case side1 => exact TB.below hT (by repeat (first | (with_reducible first | exact HB.out | apply below_alloc | apply pw_below_drewN | apply below_drew1 | refine below_set ?_ GE889.out | refine below_set ?_ GE894.out | refine below_set ?_ GE899.out) | exact HB.out)))
         rintro e w52 ⟨rfl, hb⟩
         refine ⟨_, rfl, ?_⟩
         have n0_ := Aside0.mk (blk_below (g := gb889) (o := .cells #[.int .u64 x890000_1, .int .u64 x890001_1, .int .u64 x890002_1, .int .u64 x890003_1] 26 (0, 0)) (by (with_reducible repeat (first | refine blk_drewN ?_ _ | refine blk_drew ?_ | refine blk_alloc ?_ _)); exact BK889.out) hb)
         have n1_ := Aside0.mk (blk_below (g := gb894) (o := .cells #[.int .i64 1, .int .u64 x890000_1, .int .u64 x890001_1, .int .u64 x890002_1, .int .u64 x890003_1, .slice none 0 0] 29 (0, 0)) (by (with_reducible repeat (first | refine blk_drewN ?_ _ | refine blk_drew ?_ | refine blk_alloc ?_ _)); exact BK894.out) hb)
         have n2_ := Aside0.mk (blk_below (g := gb899) (o := .cells #[.int .i64 1, .int .u64 t895, .int .u64 t896, .int .u64 t897, .int .u64 t898, .slice none 0 0] 29 (0, 0)) (by (with_reducible repeat (first | refine blk_drewN ?_ _ | refine blk_drew ?_ | refine blk_alloc ?_ _)); exact BK899.out) hb)
         have n3_ := Aside0.mk (below_step (by repeat (first | (with_reducible first | exact HB.out | apply below_alloc | apply pw_below_drewN | apply below_drew1 | refine below_set ?_ GE889.out | refine below_set ?_ GE894.out | refine below_set ?_ GE899.out) | exact HB.out)) hb)
         clear BK889
         clear BK894
         clear BK899
         clear HB
         have BK889 := n0_
         have BK894 := n1_
         have BK899 := n2_
         have HB := n3_
         clear n0_ n1_ n2_ n3_
         (try clear hb)
         (try clear hb2)
         (try clear hk)
         (try clear hi)
         refine hK.out _ _ ⟨(blk_cell BK889.out 0).trans rfl, (blk_cell BK889.out 1).trans rfl, (blk_cell BK889.out 2).trans rfl, (blk_cell BK889.out 3).trans rfl, (blk_cell BK894.out 0).trans rfl, (blk_cell BK894.out 1).trans rfl, (blk_cell BK894.out 2).trans rfl, (blk_cell BK894.out 3).trans rfl, (blk_cell BK894.out 4).trans rfl, (blk_cell BK894.out 5).trans rfl, (blk_cell BK899.out 0).trans rfl, (blk_cell BK899.out 1).trans rfl, (blk_cell BK899.out 2).trans rfl, (blk_cell BK899.out 3).trans rfl, (blk_cell BK899.out 4).trans rfl, (blk_cell BK899.out 5).trans rfl⟩ (fun hHeld => ?_)
         clear hK K
         refine norm_ (a' := ?_) ?_ ?_
         rotate_left
         ·show Act.put _ (some 36) _ = _
          simp only [Act.put, setA, setZ, setS, i64_w, i32_w]
          rfl
         refine pure_ (i := 1) (N := some 37) (v := ?_) (a' := ?_) #[tt,tt,ff,ff,ff,ff,ff,ff,ff,ff,ff,ff,ff,ff,ff,ff,ff,ff,ff,ff,ff,ff,ff,ff,ff,ff,ff,ff,ff,ff,ff,ff,ff,ff,ff,ff,ff,ff,ff,ff,ff,ff] rfl rfl (any_of HT_.out (by kernel_rfl)) (fun _ _ _ h => h) (Or.inl ⟨by rfl, ?_⟩) ?_ ?_
         rotate_left
         ·intro w'
          go_simp
          with_reducible rfl
         rotate_left
         ·simp only [Act.put, setA, setZ, setS, i64_w, i32_w]
          rfl
         refine pure_ (i := 3) (N := some 39) (v := ?_) (a' := ?_) #[tt,tt,ff,tt,ff,ff,ff,ff,ff,ff,ff,ff,ff,ff,ff,ff,ff,ff,ff,ff,ff,ff,ff,ff,ff,ff,ff,ff,ff,ff,ff,ff,ff,ff,ff,ff,ff,ff,ff,ff,ff,ff] rfl rfl (any_of HT_.out (by kernel_rfl)) (fun _ _ _ h => h) (Or.inl ⟨by rfl, ?_⟩) ?_ ?_
         rotate_left
         ·intro w'
          go_simp
          with_reducible rfl
         rotate_left
         ·simp only [Act.put, setA, setZ, setS, i64_w, i32_w]
          rfl
         refine pure_ (i := 5) (N := some 41) (v := ?_) (a' := ?_) #[tt,tt,ff,tt,ff,tt,ff,ff,ff,ff,ff,ff,ff,ff,ff,ff,ff,ff,ff,ff,ff,ff,ff,ff,ff,ff,ff,ff,ff,ff,ff,ff,ff,ff,ff,ff,ff,ff,ff,ff,ff,ff] rfl rfl (any_of HT_.out (by kernel_rfl)) (fun _ _ _ h => h) (Or.inl ⟨by rfl, ?_⟩) ?_ ?_
         rotate_left
         ·intro w'
          go_simp
          with_reducible rfl
         rotate_left
         ·simp only [Act.put, setA, setZ, setS, i64_w, i32_w]
          rfl
         refine take_ (i := 2) (N := some 38) (v := ?_) (a' := ?_) #[tt,tt,tt,tt,ff,tt,ff,ff,ff,ff,ff,ff,ff,ff,ff,ff,ff,ff,ff,ff,ff,ff,ff,ff,ff,ff,ff,ff,ff,ff,ff,ff,ff,ff,ff,ff,ff,ff,ff,ff,ff,ff] rfl rfl (take_ofW HT_.out HW_.out (by kernel_rfl)) (fun _ _ _ h => h) (Or.inl ⟨by rfl, ?_⟩) hHeld ?_ ?_
         rotate_left
         ·rintro w' ⟨s0, s1, s2, s3, s4, s5, s6, s7, s8, s9, s10, s11, s12, s13, s14, s15⟩
          go_simp
          with_reducible rfl
         rotate_left
         ·simp only [Act.put, setA, setZ, setS, i64_w, i32_w]
          rfl
         refine one_ (i := 4) (N := some 40) #[tt,tt,tt,tt,tt,tt,ff,ff,ff,ff,ff,ff,ff,ff,ff,ff,ff,ff,ff,ff,ff,ff,ff,ff,ff,ff,ff,ff,ff,ff,ff,ff,ff,ff,ff,ff,ff,ff,ff,ff,ff,ff] rfl rfl (one_of HT_.out (by kernel_rfl)) (by decide) (fun K hK => ?_)
         refine goes_ Try.func17 (by kernel_rfl) rfl #[.agg #[.int .u64 x890000_1, .int .u64 x890001_1, .int .u64 x890002_1, .int .u64 x890003_1], .int .u8 a1] (by rfl) rfl rfl (by (try simp only [List.map_toArray, List.map_cons, List.map_nil]); first | done | rfl | (simp only [List.length_drop, List.length_take]; rfl)) ?_
         with_reducible refine (regex_Set_Has.calls x890000_1 x890001_1 x890002_1 x890003_1 a1 t901 _ ?side1 A26.out).mono ?_
         (case side1 => exact TB.below hT (by repeat (first | (with_reducible first | exact HB.out | apply below_alloc | apply pw_below_drewN | apply below_drew1 | refine below_set ?_ GE889.out | refine below_set ?_ GE894.out | refine below_set ?_ GE899.out) | exact HB.out)))
         rintro e w53 ⟨rfl, hb⟩
         refine ⟨_, rfl, ?_⟩
         have n0_ := Aside0.mk (blk_below (g := gb889) (o := .cells #[.int .u64 x890000_1, .int .u64 x890001_1, .int .u64 x890002_1, .int .u64 x890003_1] 26 (0, 0)) (by (with_reducible repeat (first | refine blk_drewN ?_ _ | refine blk_drew ?_ | refine blk_alloc ?_ _)); exact BK889.out) hb)
         have n1_ := Aside0.mk (blk_below (g := gb894) (o := .cells #[.int .i64 1, .int .u64 x890000_1, .int .u64 x890001_1, .int .u64 x890002_1, .int .u64 x890003_1, .slice none 0 0] 29 (0, 0)) (by (with_reducible repeat (first | refine blk_drewN ?_ _ | refine blk_drew ?_ | refine blk_alloc ?_ _)); exact BK894.out) hb)
         have n2_ := Aside0.mk (blk_below (g := gb899) (o := .cells #[.int .i64 1, .int .u64 t895, .int .u64 t896, .int .u64 t897, .int .u64 t898, .slice none 0 0] 29 (0, 0)) (by (with_reducible repeat (first | refine blk_drewN ?_ _ | refine blk_drew ?_ | refine blk_alloc ?_ _)); exact BK899.out) hb)
         have n3_ := Aside0.mk (below_step (by repeat (first | (with_reducible first | exact HB.out | apply below_alloc | apply pw_below_drewN | apply below_drew1 | refine below_set ?_ GE889.out | refine below_set ?_ GE894.out | refine below_set ?_ GE899.out) | exact HB.out)) hb)
         clear BK889
         clear BK894
         clear BK899
         clear HB
         have BK889 := n0_
         have BK894 := n1_
         have BK899 := n2_
         have HB := n3_
         clear n0_ n1_ n2_ n3_
         (try clear hb)
         (try clear hb2)
         (try clear hk)
         (try clear hi)
         refine hK.out _ _ ⟨(blk_cell BK889.out 0).trans rfl, (blk_cell BK889.out 1).trans rfl, (blk_cell BK889.out 2).trans rfl, (blk_cell BK889.out 3).trans rfl, (blk_cell BK894.out 0).trans rfl, (blk_cell BK894.out 1).trans rfl, (blk_cell BK894.out 2).trans rfl, (blk_cell BK894.out 3).trans rfl, (blk_cell BK894.out 4).trans rfl, (blk_cell BK894.out 5).trans rfl, (blk_cell BK899.out 0).trans rfl, (blk_cell BK899.out 1).trans rfl, (blk_cell BK899.out 2).trans rfl, (blk_cell BK899.out 3).trans rfl, (blk_cell BK899.out 4).trans rfl, (blk_cell BK899.out 5).trans rfl⟩ (fun hHeld => ?_)
         clear hK K
         refine norm_ (a' := ?_) ?_ ?_
         rotate_left
         ·show Act.put _ (some 40) _ = _
          simp only [Act.put, setA, setZ, setS, i64_w, i32_w]
          rfl
         refine pure_ (i := 6) (N := some 42) (v := ?_) (a' := ?_) #[tt,tt,tt,tt,tt,tt,tt,ff,ff,ff,ff,ff,ff,ff,ff,ff,ff,ff,ff,ff,ff,ff,ff,ff,ff,ff,ff,ff,ff,ff,ff,ff,ff,ff,ff,ff,ff,ff,ff,ff,ff,ff] rfl rfl (any_of HT_.out (by kernel_rfl)) (fun _ _ _ h => h) (Or.inl ⟨by rfl, ?_⟩) ?_ ?_
         rotate_left
         ·intro w'
          go_simp
          with_reducible rfl
         rotate_left
         ·simp only [Act.put, setA, setZ, setS, i64_w, i32_w]
          rfl
         refine pure_ (i := 7) (N := some 43) (v := ?_) (a' := ?_) #[tt,tt,tt,tt,tt,tt,tt,tt,ff,ff,ff,ff,ff,ff,ff,ff,ff,ff,ff,ff,ff,ff,ff,ff,ff,ff,ff,ff,ff,ff,ff,ff,ff,ff,ff,ff,ff,ff,ff,ff,ff,ff] rfl rfl (any_of HT_.out (by kernel_rfl)) (fun _ _ _ h => h) (Or.inl ⟨by rfl, ?_⟩) ?_ ?_
         rotate_left
         ·intro w'
          go_simp
          with_reducible rfl
         rotate_left
         ·simp only [Act.put, setA, setZ, setS, i64_w, i32_w]
          rfl
         refine pure_ (i := 8) (N := some 44) (v := ?_) (a' := ?_) #[tt,tt,tt,tt,tt,tt,tt,tt,tt,ff,ff,ff,ff,ff,ff,ff,ff,ff,ff,ff,ff,ff,ff,ff,ff,ff,ff,ff,ff,ff,ff,ff,ff,ff,ff,ff,ff,ff,ff,ff,ff,ff] rfl rfl (any_of HT_.out (by kernel_rfl)) (fun _ _ _ h => h) (Or.inl ⟨by rfl, ?_⟩) ?_ ?_
         rotate_left
         ·intro w'
          go_simp
          with_reducible rfl
         rotate_left
         ·simp only [Act.put, setA, setZ, setS, i64_w, i32_w]
          rfl
         refine pure_ (i := 11) (N := some 47) (v := ?_) (a' := ?_) #[tt,tt,tt,tt,tt,tt,tt,tt,tt,ff,ff,tt,ff,ff,ff,ff,ff,ff,ff,ff,ff,ff,ff,ff,ff,ff,ff,ff,ff,ff,ff,ff,ff,ff,ff,ff,ff,ff,ff,ff,ff,ff] rfl rfl (any_of HT_.out (by kernel_rfl)) (fun _ _ _ h => h) (Or.inl ⟨by rfl, ?_⟩) ?_ ?_
         rotate_left
         ·intro w'
          go_simp
          with_reducible rfl
         rotate_left
         ·simp only [Act.put, setA, setZ, setS, i64_w, i32_w]
          rfl
         refine pure_ (i := 13) (N := some 49) (v := ?_) (a' := ?_) #[tt,tt,tt,tt,tt,tt,tt,tt,tt,ff,ff,tt,ff,tt,ff,ff,ff,ff,ff,ff,ff,ff,ff,ff,ff,ff,ff,ff,ff,ff,ff,ff,ff,ff,ff,ff,ff,ff,ff,ff,ff,ff] rfl rfl (any_of HT_.out (by kernel_rfl)) (fun _ _ _ h => h) (Or.inl ⟨by rfl, ?_⟩) ?_ ?_
         rotate_left
         ·intro w'
          go_simp
          with_reducible rfl
         rotate_left
         ·simp only [Act.put, setA, setZ, setS, i64_w, i32_w]
          rfl
         refine pure_ (i := 14) (N := some 50) (v := ?_) (a' := ?_) #[tt,tt,tt,tt,tt,tt,tt,tt,tt,ff,ff,tt,ff,tt,tt,ff,ff,ff,ff,ff,ff,ff,ff,ff,ff,ff,ff,ff,ff,ff,ff,ff,ff,ff,ff,ff,ff,ff,ff,ff,ff,ff] rfl rfl (any_of HT_.out (by kernel_rfl)) (fun _ _ _ h => h) (Or.inl ⟨by rfl, ?_⟩) ?_ ?_
         rotate_left
         ·intro w'
          go_simp
          with_reducible rfl
         rotate_left
         ·simp only [Act.put, setA, setZ, setS, i64_w, i32_w]
          rfl
         refine take_ (i := 9) (N := some 45) (v := ?_) (a' := ?_) #[tt,tt,tt,tt,tt,tt,tt,tt,tt,tt,ff,tt,ff,tt,tt,ff,ff,ff,ff,ff,ff,ff,ff,ff,ff,ff,ff,ff,ff,ff,ff,ff,ff,ff,ff,ff,ff,ff,ff,ff,ff,ff] rfl rfl (take_ofW HT_.out HW_.out (by kernel_rfl)) (fun _ _ _ h => h) (Or.inl ⟨by rfl, ?_⟩) hHeld ?_ ?_
         rotate_left
         ·rintro w' ⟨s0, s1, s2, s3, s4, s5, s6, s7, s8, s9, s10, s11, s12, s13, s14, s15⟩
          go_simp
          with_reducible rfl
         rotate_left
         ·simp only [Act.put, setA, setZ, setS, i64_w, i32_w]
          rfl
         refine one_ (i := 10) (N := some 46) #[tt,tt,tt,tt,tt,tt,tt,tt,tt,tt,tt,tt,ff,tt,tt,ff,ff,ff,ff,ff,ff,ff,ff,ff,ff,ff,ff,ff,ff,ff,ff,ff,ff,ff,ff,ff,ff,ff,ff,ff,ff,ff] rfl rfl (one_of HT_.out (by kernel_rfl)) (by decide) (fun K hK => ?_)
         refine goes_ Try.func13 (by kernel_rfl) rfl #[.agg #[.int .u64 x890000_1, .int .u64 x890001_1, .int .u64 x890002_1, .int .u64 x890003_1]] (by rfl) rfl rfl (by (try simp only [List.map_toArray, List.map_cons, List.map_nil]); first | done | rfl | (simp only [List.length_drop, List.length_take]; rfl)) ?_
         with_reducible refine (regex_Set_Not.calls x890000_1 x890001_1 x890002_1 x890003_1 t902 t903 t904 t905 _ ?side1 A28.out).mono ?_
         (case side1 => exact TB.below hT (by repeat (first | (with_reducible first | exact HB.out | apply below_alloc | apply pw_below_drewN | apply below_drew1 | refine below_set ?_ GE889.out | refine below_set ?_ GE894.out | refine below_set ?_ GE899.out) | exact HB.out)))
         rintro e w54 ⟨rfl, hb⟩
         refine ⟨_, rfl, ?_⟩
         have n0_ := Aside0.mk (blk_below (g := gb889) (o := .cells #[.int .u64 x890000_1, .int .u64 x890001_1, .int .u64 x890002_1, .int .u64 x890003_1] 26 (0, 0)) (by (with_reducible repeat (first | refine blk_drewN ?_ _ | refine blk_drew ?_ | refine blk_alloc ?_ _)); exact BK889.out) hb)
         have n1_ := Aside0.mk (blk_below (g := gb894) (o := .cells #[.int .i64 1, .int .u64 x890000_1, .int .u64 x890001_1, .int .u64 x890002_1, .int .u64 x890003_1, .slice none 0 0] 29 (0, 0)) (by (with_reducible repeat (first | refine blk_drewN ?_ _ | refine blk_drew ?_ | refine blk_alloc ?_ _)); exact BK894.out) hb)
         have n2_ := Aside0.mk (blk_below (g := gb899) (o := .cells #[.int .i64 1, .int .u64 t895, .int .u64 t896, .int .u64 t897, .int .u64 t898, .slice none 0 0] 29 (0, 0)) (by (with_reducible repeat (first | refine blk_drewN ?_ _ | refine blk_drew ?_ | refine blk_alloc ?_ _)); exact BK899.out) hb)
         have n3_ := Aside0.mk (below_step (by repeat (first | (with_reducible first | exact HB.out | apply below_alloc | apply pw_below_drewN | apply below_drew1 | refine below_set ?_ GE889.out | refine below_set ?_ GE894.out | refine below_set ?_ GE899.out) | exact HB.out)) hb)
         clear BK889
         clear BK894
         clear BK899
         clear HB
         have BK889 := n0_
         have BK894 := n1_
         have BK899 := n2_
         have HB := n3_
         clear n0_ n1_ n2_ n3_
         (try clear hb)
         (try clear hb2)
         (try clear hk)
         (try clear hi)
         refine hK.out _ _ ⟨(blk_cell BK889.out 0).trans rfl, (blk_cell BK889.out 1).trans rfl, (blk_cell BK889.out 2).trans rfl, (blk_cell BK889.out 3).trans rfl, (blk_cell BK894.out 0).trans rfl, (blk_cell BK894.out 1).trans rfl, (blk_cell BK894.out 2).trans rfl, (blk_cell BK894.out 3).trans rfl, (blk_cell BK894.out 4).trans rfl, (blk_cell BK894.out 5).trans rfl, (blk_cell BK899.out 0).trans rfl, (blk_cell BK899.out 1).trans rfl, (blk_cell BK899.out 2).trans rfl, (blk_cell BK899.out 3).trans rfl, (blk_cell BK899.out 4).trans rfl, (blk_cell BK899.out 5).trans rfl⟩ (fun hHeld => ?_)
         clear hK K
         refine norm_ (a' := ?_) ?_ ?_
         rotate_left
         ·show Act.put _ (some 46) _ = _
          simp only [Act.put, setA, setZ, setS, i64_w, i32_w]
          rfl
         refine one_ (i := 12) (N := some 48) #[tt,tt,tt,tt,tt,tt,tt,tt,tt,tt,tt,tt,tt,tt,tt,ff,ff,ff,ff,ff,ff,ff,ff,ff,ff,ff,ff,ff,ff,ff,ff,ff,ff,ff,ff,ff,ff,ff,ff,ff,ff,ff] rfl rfl (one_of HT_.out (by kernel_rfl)) (by decide) (fun K hK => ?_)
         refine goes_ Try.func17 (by kernel_rfl) rfl #[.agg #[.int .u64 t902, .int .u64 t903, .int .u64 t904, .int .u64 t905], .int .u8 a1] (by rfl) rfl rfl (by (try simp only [List.map_toArray, List.map_cons, List.map_nil]); first | done | rfl | (simp only [List.length_drop, List.length_take]; rfl)) ?_
         with_reducible refine (regex_Set_Has.calls t902 t903 t904 t905 a1 t906 _ ?side1 A29.out).mono ?_
         (case side1 => exact TB.below hT (by repeat (first | (with_reducible first | exact HB.out | apply below_alloc | apply pw_below_drewN | apply below_drew1 | refine below_set ?_ GE889.out | refine below_set ?_ GE894.out | refine below_set ?_ GE899.out) | exact HB.out)))
         rintro e w55 ⟨rfl, hb⟩
         refine ⟨_, rfl, ?_⟩
         have n0_ := Aside0.mk (blk_below (g := gb889) (o := .cells #[.int .u64 x890000_1, .int .u64 x890001_1, .int .u64 x890002_1, .int .u64 x890003_1] 26 (0, 0)) (by (with_reducible repeat (first | refine blk_drewN ?_ _ | refine blk_drew ?_ | refine blk_alloc ?_ _)); exact BK889.out) hb)
         have n1_ := Aside0.mk (blk_below (g := gb894) (o := .cells #[.int .i64 1, .int .u64 x890000_1, .int .u64 x890001_1, .int .u64 x890002_1, .int .u64 x890003_1, .slice none 0 0] 29 (0, 0)) (by (with_reducible repeat (first | refine blk_drewN ?_ _ | refine blk_drew ?_ | refine blk_alloc ?_ _)); exact BK894.out) hb)
         have n2_ := Aside0.mk (blk_below (g := gb899) (o := .cells #[.int .i64 1, .int .u64 t895, .int .u64 t896, .int .u64 t897, .int .u64 t898, .slice none 0 0] 29 (0, 0)) (by (with_reducible repeat (first | refine blk_drewN ?_ _ | refine blk_drew ?_ | refine blk_alloc ?_ _)); exact BK899.out) hb)
         have n3_ := Aside0.mk (below_step (by repeat (first | (with_reducible first | exact HB.out | apply below_alloc | apply pw_below_drewN | apply below_drew1 | refine below_set ?_ GE889.out | refine below_set ?_ GE894.out | refine below_set ?_ GE899.out) | exact HB.out)) hb)
         clear BK889
         clear BK894
         clear BK899
         clear HB
         have BK889 := n0_
         have BK894 := n1_
         have BK899 := n2_
         have HB := n3_
         clear n0_ n1_ n2_ n3_
         (try clear hb)
         (try clear hb2)
         (try clear hk)
         (try clear hi)
         refine hK.out _ _ ⟨(blk_cell BK889.out 0).trans rfl, (blk_cell BK889.out 1).trans rfl, (blk_cell BK889.out 2).trans rfl, (blk_cell BK889.out 3).trans rfl, (blk_cell BK894.out 0).trans rfl, (blk_cell BK894.out 1).trans rfl, (blk_cell BK894.out 2).trans rfl, (blk_cell BK894.out 3).trans rfl, (blk_cell BK894.out 4).trans rfl, (blk_cell BK894.out 5).trans rfl, (blk_cell BK899.out 0).trans rfl, (blk_cell BK899.out 1).trans rfl, (blk_cell BK899.out 2).trans rfl, (blk_cell BK899.out 3).trans rfl, (blk_cell BK899.out 4).trans rfl, (blk_cell BK899.out 5).trans rfl⟩ (fun hHeld => ?_)
         clear hK K
         refine norm_ (a' := ?_) ?_ ?_
         rotate_left
         ·show Act.put _ (some 48) _ = _
          simp only [Act.put, setA, setZ, setS, i64_w, i32_w]
          rfl
         refine pure_ (i := 15) (N := some 51) (v := ?_) (a' := ?_) #[tt,tt,tt,tt,tt,tt,tt,tt,tt,tt,tt,tt,tt,tt,tt,tt,ff,ff,ff,ff,ff,ff,ff,ff,ff,ff,ff,ff,ff,ff,ff,ff,ff,ff,ff,ff,ff,ff,ff,ff,ff,ff] rfl rfl (any_of HT_.out (by kernel_rfl)) (fun _ _ _ h => h) (Or.inl ⟨by rfl, ?_⟩) ?_ ?_
         rotate_left
         ·intro w'
          go_simp
          with_reducible rfl
         rotate_left
         ·simp only [Act.put, setA, setZ, setS, i64_w, i32_w]
          rfl
         refine pure_ (i := 16) (N := some 52) (v := ?_) (a' := ?_) #[tt,tt,tt,tt,tt,tt,tt,tt,tt,tt,tt,tt,tt,tt,tt,tt,tt,ff,ff,ff,ff,ff,ff,ff,ff,ff,ff,ff,ff,ff,ff,ff,ff,ff,ff,ff,ff,ff,ff,ff,ff,ff] rfl rfl (any_of HT_.out (by kernel_rfl)) (fun _ _ _ h => h) (Or.inl ⟨by rfl, ?_⟩) ?_ ?_
         rotate_left
         ·intro w'
          go_simp
          with_reducible rfl
         rotate_left
         ·simp only [Act.put, setA, setZ, setS, i64_w, i32_w]
          rfl
         refine pure_ (i := 17) (N := some 53) (v := ?_) (a' := ?_) #[tt,tt,tt,tt,tt,tt,tt,tt,tt,tt,tt,tt,tt,tt,tt,tt,tt,tt,ff,ff,ff,ff,ff,ff,ff,ff,ff,ff,ff,ff,ff,ff,ff,ff,ff,ff,ff,ff,ff,ff,ff,ff] rfl rfl (any_of HT_.out (by kernel_rfl)) (fun _ _ _ h => h) (Or.inl ⟨by rfl, ?_⟩) ?_ ?_
         rotate_left
         ·intro w'
          go_simp
          with_reducible rfl
         rotate_left
         ·simp only [Act.put, setA, setZ, setS, i64_w, i32_w]
          rfl
         refine take_ (i := 18) (N := some 54) (v := ?_) (a' := ?_) #[tt,tt,tt,tt,tt,tt,tt,tt,tt,tt,tt,tt,tt,tt,tt,tt,tt,tt,tt,ff,ff,ff,ff,ff,ff,ff,ff,ff,ff,ff,ff,ff,ff,ff,ff,ff,ff,ff,ff,ff,ff,ff] rfl rfl (take_ofW HT_.out HW_.out (by kernel_rfl)) (fun _ _ _ h => h) (Or.inl ⟨by rfl, ?_⟩) hHeld ?_ ?_
         rotate_left
         ·rintro w' ⟨s0, s1, s2, s3, s4, s5, s6, s7, s8, s9, s10, s11, s12, s13, s14, s15⟩
          go_simp
          with_reducible rfl
         rotate_left
         ·simp only [Act.put, setA, setZ, setS, i64_w, i32_w]
          rfl
         refine take_ (i := 21) (N := some 57) (v := ?_) (a' := ?_) #[tt,tt,tt,tt,tt,tt,tt,tt,tt,tt,tt,tt,tt,tt,tt,tt,tt,tt,tt,ff,ff,tt,ff,ff,ff,ff,ff,ff,ff,ff,ff,ff,ff,ff,ff,ff,ff,ff,ff,ff,ff,ff] rfl rfl (take_ofW HT_.out HW_.out (by kernel_rfl)) (fun _ _ _ h => h) (Or.inl ⟨by rfl, ?_⟩) hHeld ?_ ?_
         rotate_left
         ·rintro w' ⟨s0, s1, s2, s3, s4, s5, s6, s7, s8, s9, s10, s11, s12, s13, s14, s15⟩
          go_simp
          with_reducible rfl
         rotate_left
         ·simp only [Act.put, setA, setZ, setS, i64_w, i32_w]
          rfl
         refine one_ (i := 19) (N := some 55) #[tt,tt,tt,tt,tt,tt,tt,tt,tt,tt,tt,tt,tt,tt,tt,tt,tt,tt,tt,tt,ff,tt,ff,ff,ff,ff,ff,ff,ff,ff,ff,ff,ff,ff,ff,ff,ff,ff,ff,ff,ff,ff] rfl rfl (one_of HT_.out (by kernel_rfl)) (by decide) (fun K hK => ?_)
         refine goes_ Try.func13 (by kernel_rfl) rfl #[.agg #[.int .u64 x890000_1, .int .u64 x890001_1, .int .u64 x890002_1, .int .u64 x890003_1]] (by rfl) rfl rfl (by (try simp only [List.map_toArray, List.map_cons, List.map_nil]); first | done | rfl | (simp only [List.length_drop, List.length_take]; rfl)) ?_
         with_reducible refine (regex_Set_Not.calls x890000_1 x890001_1 x890002_1 x890003_1 t907 t908 t909 t910 _ ?side1 A31.out).mono ?_
         (case side1 => exact TB.below hT (by repeat (first | (with_reducible first | exact HB.out | apply below_alloc | apply pw_below_drewN | apply below_drew1 | refine below_set ?_ GE889.out | refine below_set ?_ GE894.out | refine below_set ?_ GE899.out) | exact HB.out)))
         rintro e w56 ⟨rfl, hb⟩
         refine ⟨_, rfl, ?_⟩
         have n0_ := Aside0.mk (blk_below (g := gb889) (o := .cells #[.int .u64 x890000_1, .int .u64 x890001_1, .int .u64 x890002_1, .int .u64 x890003_1] 26 (0, 0)) (by (with_reducible repeat (first | refine blk_drewN ?_ _ | refine blk_drew ?_ | refine blk_alloc ?_ _)); exact BK889.out) hb)
         have n1_ := Aside0.mk (blk_below (g := gb894) (o := .cells #[.int .i64 1, .int .u64 x890000_1, .int .u64 x890001_1, .int .u64 x890002_1, .int .u64 x890003_1, .slice none 0 0] 29 (0, 0)) (by (with_reducible repeat (first | refine blk_drewN ?_ _ | refine blk_drew ?_ | refine blk_alloc ?_ _)); exact BK894.out) hb)
         have n2_ := Aside0.mk (blk_below (g := gb899) (o := .cells #[.int .i64 1, .int .u64 t895, .int .u64 t896, .int .u64 t897, .int .u64 t898, .slice none 0 0] 29 (0, 0)) (by (with_reducible repeat (first | refine blk_drewN ?_ _ | refine blk_drew ?_ | refine blk_alloc ?_ _)); exact BK899.out) hb)
         have n3_ := Aside0.mk (below_step (by repeat (first | (with_reducible first | exact HB.out | apply below_alloc | apply pw_below_drewN | apply below_drew1 | refine below_set ?_ GE889.out | refine below_set ?_ GE894.out | refine below_set ?_ GE899.out) | exact HB.out)) hb)
         clear BK889
         clear BK894
         clear BK899
         clear HB
         have BK889 := n0_
         have BK894 := n1_
         have BK899 := n2_
         have HB := n3_
         clear n0_ n1_ n2_ n3_
         (try clear hb)
         (try clear hb2)
         (try clear hk)
         (try clear hi)
         refine hK.out _ _ ⟨(blk_cell BK889.out 0).trans rfl, (blk_cell BK889.out 1).trans rfl, (blk_cell BK889.out 2).trans rfl, (blk_cell BK889.out 3).trans rfl, (blk_cell BK894.out 0).trans rfl, (blk_cell BK894.out 1).trans rfl, (blk_cell BK894.out 2).trans rfl, (blk_cell BK894.out 3).trans rfl, (blk_cell BK894.out 4).trans rfl, (blk_cell BK894.out 5).trans rfl, (blk_cell BK899.out 0).trans rfl, (blk_cell BK899.out 1).trans rfl, (blk_cell BK899.out 2).trans rfl, (blk_cell BK899.out 3).trans rfl, (blk_cell BK899.out 4).trans rfl, (blk_cell BK899.out 5).trans rfl⟩ (fun hHeld => ?_)
         clear hK K
         refine norm_ (a' := ?_) ?_ ?_
         rotate_left
         ·show Act.put _ (some 55) _ = _
          simp only [Act.put, setA, setZ, setS, i64_w, i32_w]
          rfl
         refine one_ (i := 20) (N := some 56) #[tt,tt,tt,tt,tt,tt,tt,tt,tt,tt,tt,tt,tt,tt,tt,tt,tt,tt,tt,tt,tt,tt,ff,ff,ff,ff,ff,ff,ff,ff,ff,ff,ff,ff,ff,ff,ff,ff,ff,ff,ff,ff] rfl rfl (one_of HT_.out (by kernel_rfl)) (by decide) (fun K hK => ?_)
         refine goes_ Try.func13 (by kernel_rfl) rfl #[.agg #[.int .u64 t907, .int .u64 t908, .int .u64 t909, .int .u64 t910]] (by rfl) rfl rfl (by (try simp only [List.map_toArray, List.map_cons, List.map_nil]); first | done | rfl | (simp only [List.length_drop, List.length_take]; rfl)) ?_
         with_reducible refine (regex_Set_Not.calls t907 t908 t909 t910 t911 t912 t913 t914 _ ?side1 A32.out).mono ?_
         (case side1 => exact TB.below hT (by repeat (first | (with_reducible first | exact HB.out | apply below_alloc | apply pw_below_drewN | apply below_drew1 | refine below_set ?_ GE889.out | refine below_set ?_ GE894.out | refine below_set ?_ GE899.out) | exact HB.out)))
         rintro e w57 ⟨rfl, hb⟩
         refine ⟨_, rfl, ?_⟩
         have n0_ := Aside0.mk (blk_below (g := gb889) (o := .cells #[.int .u64 x890000_1, .int .u64 x890001_1, .int .u64 x890002_1, .int .u64 x890003_1] 26 (0, 0)) (by (with_reducible repeat (first | refine blk_drewN ?_ _ | refine blk_drew ?_ | refine blk_alloc ?_ _)); exact BK889.out) hb)
         have n1_ := Aside0.mk (blk_below (g := gb894) (o := .cells #[.int .i64 1, .int .u64 x890000_1, .int .u64 x890001_1, .int .u64 x890002_1, .int .u64 x890003_1, .slice none 0 0] 29 (0, 0)) (by (with_reducible repeat (first | refine blk_drewN ?_ _ | refine blk_drew ?_ | refine blk_alloc ?_ _)); exact BK894.out) hb)
         have n2_ := Aside0.mk (blk_below (g := gb899) (o := .cells #[.int .i64 1, .int .u64 t895, .int .u64 t896, .int .u64 t897, .int .u64 t898, .slice none 0 0] 29 (0, 0)) (by (with_reducible repeat (first | refine blk_drewN ?_ _ | refine blk_drew ?_ | refine blk_alloc ?_ _)); exact BK899.out) hb)
         have n3_ := Aside0.mk (below_step (by repeat (first | (with_reducible first | exact HB.out | apply below_alloc | apply pw_below_drewN | apply below_drew1 | refine below_set ?_ GE889.out | refine below_set ?_ GE894.out | refine below_set ?_ GE899.out) | exact HB.out)) hb)
         clear BK889
         clear BK894
         clear BK899
         clear HB
         have BK889 := n0_
         have BK894 := n1_
         have BK899 := n2_
         have HB := n3_
         clear n0_ n1_ n2_ n3_
         (try clear hb)
         (try clear hb2)
         (try clear hk)
         (try clear hi)
         refine hK.out _ _ ⟨(blk_cell BK889.out 0).trans rfl, (blk_cell BK889.out 1).trans rfl, (blk_cell BK889.out 2).trans rfl, (blk_cell BK889.out 3).trans rfl, (blk_cell BK894.out 0).trans rfl, (blk_cell BK894.out 1).trans rfl, (blk_cell BK894.out 2).trans rfl, (blk_cell BK894.out 3).trans rfl, (blk_cell BK894.out 4).trans rfl, (blk_cell BK894.out 5).trans rfl, (blk_cell BK899.out 0).trans rfl, (blk_cell BK899.out 1).trans rfl, (blk_cell BK899.out 2).trans rfl, (blk_cell BK899.out 3).trans rfl, (blk_cell BK899.out 4).trans rfl, (blk_cell BK899.out 5).trans rfl⟩ (fun hHeld => ?_)
         clear hK K
         refine norm_ (a' := ?_) ?_ ?_
         rotate_left
         ·show Act.put _ (some 56) _ = _
          simp only [Act.put, setA, setZ, setS, i64_w, i32_w]
          rfl
         refine pure_ (i := 22) (N := some 58) (v := ?_) (a' := ?_) #[tt,tt,tt,tt,tt,tt,tt,tt,tt,tt,tt,tt,tt,tt,tt,tt,tt,tt,tt,tt,tt,tt,tt,ff,ff,ff,ff,ff,ff,ff,ff,ff,ff,ff,ff,ff,ff,ff,ff,ff,ff,ff] rfl rfl (any_of HT_.out (by kernel_rfl)) (fun _ _ _ h => h) (Or.inl ⟨by rfl, ?_⟩) ?_ ?_
         rotate_left
         ·intro w'
          go_simp
          with_reducible rfl
         rotate_left
         ·simp only [Act.put, setA, setZ, setS, i64_w, i32_w]
          rfl
         refine pure_ (i := 23) (N := some 59) (v := ?_) (a' := ?_) #[tt,tt,tt,tt,tt,tt,tt,tt,tt,tt,tt,tt,tt,tt,tt,tt,tt,tt,tt,tt,tt,tt,tt,tt,ff,ff,ff,ff,ff,ff,ff,ff,ff,ff,ff,ff,ff,ff,ff,ff,ff,ff] rfl rfl (any_of HT_.out (by kernel_rfl)) (fun _ _ _ h => h) (Or.inl ⟨by rfl, ?_⟩) ?_ ?_
         rotate_left
         ·intro w'
          go_simp
          with_reducible rfl
         rotate_left
         ·simp only [Act.put, setA, setZ, setS, i64_w, i32_w]
          rfl
         refine pure_ (i := 24) (N := some 60) (v := ?_) (a' := ?_) #[tt,tt,tt,tt,tt,tt,tt,tt,tt,tt,tt,tt,tt,tt,tt,tt,tt,tt,tt,tt,tt,tt,tt,tt,tt,ff,ff,ff,ff,ff,ff,ff,ff,ff,ff,ff,ff,ff,ff,ff,ff,ff] rfl rfl (any_of HT_.out (by kernel_rfl)) (fun _ _ _ h => h) (Or.inl ⟨by rfl, ?_⟩) ?_ ?_
         rotate_left
         ·intro w'
          go_simp
          with_reducible rfl
         rotate_left
         ·simp only [Act.put, setA, setZ, setS, i64_w, i32_w]
          rfl
         refine pure_ (i := 27) (N := some 63) (v := ?_) (a' := ?_) #[tt,tt,tt,tt,tt,tt,tt,tt,tt,tt,tt,tt,tt,tt,tt,tt,tt,tt,tt,tt,tt,tt,tt,tt,tt,ff,ff,tt,ff,ff,ff,ff,ff,ff,ff,ff,ff,ff,ff,ff,ff,ff] rfl rfl (any_of HT_.out (by kernel_rfl)) (fun _ _ _ h => h) (Or.inl ⟨by rfl, ?_⟩) ?_ ?_
         rotate_left
         ·intro w'
          go_simp
          with_reducible rfl
         rotate_left
         ·simp only [Act.put, setA, setZ, setS, i64_w, i32_w]
          rfl
         refine pure_ (i := 28) (N := some 64) (v := ?_) (a' := ?_) #[tt,tt,tt,tt,tt,tt,tt,tt,tt,tt,tt,tt,tt,tt,tt,tt,tt,tt,tt,tt,tt,tt,tt,tt,tt,ff,ff,tt,tt,ff,ff,ff,ff,ff,ff,ff,ff,ff,ff,ff,ff,ff] rfl rfl (any_of HT_.out (by kernel_rfl)) (fun _ _ _ h => h) (Or.inl ⟨by rfl, ?_⟩) ?_ ?_
         rotate_left
         ·intro w'
          go_simp
          with_reducible rfl
         rotate_left
         ·simp only [Act.put, setA, setZ, setS, i64_w, i32_w]
          rfl
         refine take_ (i := 25) (N := some 61) (v := ?_) (a' := ?_) #[tt,tt,tt,tt,tt,tt,tt,tt,tt,tt,tt,tt,tt,tt,tt,tt,tt,tt,tt,tt,tt,tt,tt,tt,tt,tt,ff,tt,tt,ff,ff,ff,ff,ff,ff,ff,ff,ff,ff,ff,ff,ff] rfl rfl (take_ofW HT_.out HW_.out (by kernel_rfl)) (fun _ _ _ h => h) (Or.inl ⟨by rfl, ?_⟩) hHeld ?_ ?_
         rotate_left
         ·rintro w' ⟨s0, s1, s2, s3, s4, s5, s6, s7, s8, s9, s10, s11, s12, s13, s14, s15⟩
          go_simp
          with_reducible rfl
         rotate_left
         ·simp only [Act.put, setA, setZ, setS, i64_w, i32_w]
          rfl
         refine one_ (i := 26) (N := some 62) #[tt,tt,tt,tt,tt,tt,tt,tt,tt,tt,tt,tt,tt,tt,tt,tt,tt,tt,tt,tt,tt,tt,tt,tt,tt,tt,tt,tt,tt,ff,ff,ff,ff,ff,ff,ff,ff,ff,ff,ff,ff,ff] rfl rfl (one_of HT_.out (by kernel_rfl)) (by decide) (fun K hK => ?_)
         refine goes_ Try.func15 (by kernel_rfl) rfl #[.agg #[.int .i64 1, .int .u64 x890000_1, .int .u64 x890001_1, .int .u64 x890002_1, .int .u64 x890003_1, .slice none 0 0]] (by rfl) rfl rfl (by (try simp only [List.map_toArray, List.map_cons, List.map_nil]); first | done | rfl | (simp only [List.length_drop, List.length_take]; rfl)) ?_
         refine (regex_Print.calls k1 1 x890000_1 x890001_1 x890002_1 x890003_1 _ _ ([] : List (S29)) t915 _ ?side1 ?side2 ?side3 A34.out).mono ?_
         (case side1 => exact Kd.C_nil _ _)
         (case side2 => exact Nat.le_refl _)
         (case side3 => exact TB.below hT (by repeat (first | (with_reducible first | exact HB.out | apply below_alloc | apply pw_below_drewN | apply below_drew1 | refine below_set ?_ GE889.out | refine below_set ?_ GE894.out | refine below_set ?_ GE899.out) | exact HB.out)))
         rintro e w58 ⟨rfl, hb⟩
         refine ⟨_, rfl, ?_⟩
         have n0_ := Aside0.mk (blk_below (g := gb889) (o := .cells #[.int .u64 x890000_1, .int .u64 x890001_1, .int .u64 x890002_1, .int .u64 x890003_1] 26 (0, 0)) (by (with_reducible repeat (first | refine blk_drewN ?_ _ | refine blk_drew ?_ | refine blk_alloc ?_ _)); exact BK889.out) hb)
         have n1_ := Aside0.mk (blk_below (g := gb894) (o := .cells #[.int .i64 1, .int .u64 x890000_1, .int .u64 x890001_1, .int .u64 x890002_1, .int .u64 x890003_1, .slice none 0 0] 29 (0, 0)) (by (with_reducible repeat (first | refine blk_drewN ?_ _ | refine blk_drew ?_ | refine blk_alloc ?_ _)); exact BK894.out) hb)
         have n2_ := Aside0.mk (blk_below (g := gb899) (o := .cells #[.int .i64 1, .int .u64 t895, .int .u64 t896, .int .u64 t897, .int .u64 t898, .slice none 0 0] 29 (0, 0)) (by (with_reducible repeat (first | refine blk_drewN ?_ _ | refine blk_drew ?_ | refine blk_alloc ?_ _)); exact BK899.out) hb)
         have n3_ := Aside0.mk (below_step (by repeat (first | (with_reducible first | exact HB.out | apply below_alloc | apply pw_below_drewN | apply below_drew1 | refine below_set ?_ GE889.out | refine below_set ?_ GE894.out | refine below_set ?_ GE899.out) | exact HB.out)) hb)
         clear BK889
         clear BK894
         clear BK899
         clear HB
         have BK889 := n0_
         have BK894 := n1_
         have BK899 := n2_
         have HB := n3_
         clear n0_ n1_ n2_ n3_
         (try clear hb)
         (try clear hb2)
         (try clear hk)
         (try clear hi)
         refine hK.out _ _ ⟨(blk_cell BK889.out 0).trans rfl, (blk_cell BK889.out 1).trans rfl, (blk_cell BK889.out 2).trans rfl, (blk_cell BK889.out 3).trans rfl, (blk_cell BK894.out 0).trans rfl, (blk_cell BK894.out 1).trans rfl, (blk_cell BK894.out 2).trans rfl, (blk_cell BK894.out 3).trans rfl, (blk_cell BK894.out 4).trans rfl, (blk_cell BK894.out 5).trans rfl, (blk_cell BK899.out 0).trans rfl, (blk_cell BK899.out 1).trans rfl, (blk_cell BK899.out 2).trans rfl, (blk_cell BK899.out 3).trans rfl, (blk_cell BK899.out 4).trans rfl, (blk_cell BK899.out 5).trans rfl⟩ (fun hHeld => ?_)
         clear hK K
         refine norm_ (a' := ?_) ?_ ?_
         rotate_left
         ·show Act.put _ (some 62) _ = _
          simp only [Act.put, setA, setZ, setS, i64_w, i32_w]
          rfl
         refine one_ (i := 29) (N := some 65) #[tt,tt,tt,tt,tt,tt,tt,tt,tt,tt,tt,tt,tt,tt,tt,tt,tt,tt,tt,tt,tt,tt,tt,tt,tt,tt,tt,tt,tt,tt,ff,ff,ff,ff,ff,ff,ff,ff,ff,ff,ff,ff] rfl rfl (one_of HT_.out (by kernel_rfl)) (by decide) (fun K hK => ?_)
         refine goes_ Try.func16 (by kernel_rfl) rfl #[.agg #[.int .i64 1, .string t888, .slice none 0 0]] (by rfl) rfl rfl (by (try simp only [List.map_toArray, List.map_cons, List.map_nil]); first | done | rfl | (simp only [List.length_drop, List.length_take]; rfl)) ?_
         refine (scriberef09_Print.calls k1 1 t888 _ _ ([] : List (S39)) t916 _ ?side1 ?side2 ?side3 A35.out).mono ?_
         (case side1 => exact Kd.C_nil _ _)
         (case side2 => exact Nat.le_refl _)
         (case side3 => exact TB.below hT (by repeat (first | (with_reducible first | exact HB.out | apply below_alloc | apply pw_below_drewN | apply below_drew1 | refine below_set ?_ GE889.out | refine below_set ?_ GE894.out | refine below_set ?_ GE899.out) | exact HB.out)))
         rintro e w59 ⟨rfl, hb⟩
         refine ⟨_, rfl, ?_⟩
         have n0_ := Aside0.mk (blk_below (g := gb889) (o := .cells #[.int .u64 x890000_1, .int .u64 x890001_1, .int .u64 x890002_1, .int .u64 x890003_1] 26 (0, 0)) (by (with_reducible repeat (first | refine blk_drewN ?_ _ | refine blk_drew ?_ | refine blk_alloc ?_ _)); exact BK889.out) hb)
         have n1_ := Aside0.mk (blk_below (g := gb894) (o := .cells #[.int .i64 1, .int .u64 x890000_1, .int .u64 x890001_1, .int .u64 x890002_1, .int .u64 x890003_1, .slice none 0 0] 29 (0, 0)) (by (with_reducible repeat (first | refine blk_drewN ?_ _ | refine blk_drew ?_ | refine blk_alloc ?_ _)); exact BK894.out) hb)
         have n2_ := Aside0.mk (blk_below (g := gb899) (o := .cells #[.int .i64 1, .int .u64 t895, .int .u64 t896, .int .u64 t897, .int .u64 t898, .slice none 0 0] 29 (0, 0)) (by (with_reducible repeat (first | refine blk_drewN ?_ _ | refine blk_drew ?_ | refine blk_alloc ?_ _)); exact BK899.out) hb)
         have n3_ := Aside0.mk (below_step (by repeat (first | (with_reducible first | exact HB.out | apply below_alloc | apply pw_below_drewN | apply below_drew1 | refine below_set ?_ GE889.out | refine below_set ?_ GE894.out | refine below_set ?_ GE899.out) | exact HB.out)) hb)
         clear BK889
         clear BK894
         clear BK899
         clear HB
         have BK889 := n0_
         have BK894 := n1_
         have BK899 := n2_
         have HB := n3_
         clear n0_ n1_ n2_ n3_
         (try clear hb)
         (try clear hb2)
         (try clear hk)
         (try clear hi)
         refine hK.out _ _ ⟨(blk_cell BK889.out 0).trans rfl, (blk_cell BK889.out 1).trans rfl, (blk_cell BK889.out 2).trans rfl, (blk_cell BK889.out 3).trans rfl, (blk_cell BK894.out 0).trans rfl, (blk_cell BK894.out 1).trans rfl, (blk_cell BK894.out 2).trans rfl, (blk_cell BK894.out 3).trans rfl, (blk_cell BK894.out 4).trans rfl, (blk_cell BK894.out 5).trans rfl, (blk_cell BK899.out 0).trans rfl, (blk_cell BK899.out 1).trans rfl, (blk_cell BK899.out 2).trans rfl, (blk_cell BK899.out 3).trans rfl, (blk_cell BK899.out 4).trans rfl, (blk_cell BK899.out 5).trans rfl⟩ (fun hHeld => ?_)
         clear hK K
         refine norm_ (a' := ?_) ?_ ?_
         rotate_left
         ·show Act.put _ (some 65) _ = _
          simp only [Act.put, setA, setZ, setS, i64_w, i32_w]
          rfl
         refine pure_ (i := 30) (N := some 66) (v := ?_) (a' := ?_) #[tt,tt,tt,tt,tt,tt,tt,tt,tt,tt,tt,tt,tt,tt,tt,tt,tt,tt,tt,tt,tt,tt,tt,tt,tt,tt,tt,tt,tt,tt,tt,ff,ff,ff,ff,ff,ff,ff,ff,ff,ff,ff] rfl rfl (any_of HT_.out (by kernel_rfl)) (fun _ _ _ h => h) (Or.inl ⟨by rfl, ?_⟩) ?_ ?_
         rotate_left
         ·intro w'
          go_simp
          with_reducible rfl
         rotate_left
         ·simp only [Act.put, setA, setZ, setS, i64_w, i32_w]
          rfl
         refine pure_ (i := 31) (N := some 67) (v := ?_) (a' := ?_) #[tt,tt,tt,tt,tt,tt,tt,tt,tt,tt,tt,tt,tt,tt,tt,tt,tt,tt,tt,tt,tt,tt,tt,tt,tt,tt,tt,tt,tt,tt,tt,tt,ff,ff,ff,ff,ff,ff,ff,ff,ff,ff] rfl rfl (any_of HT_.out (by kernel_rfl)) (fun _ _ _ h => h) (Or.inl ⟨by rfl, ?_⟩) ?_ ?_
         rotate_left
         ·intro w'
          go_simp
          with_reducible rfl
         rotate_left
         ·simp only [Act.put, setA, setZ, setS, i64_w, i32_w]
          rfl
         refine pure_ (i := 32) (N := some 68) (v := ?_) (a' := ?_) #[tt,tt,tt,tt,tt,tt,tt,tt,tt,tt,tt,tt,tt,tt,tt,tt,tt,tt,tt,tt,tt,tt,tt,tt,tt,tt,tt,tt,tt,tt,tt,tt,tt,ff,ff,ff,ff,ff,ff,ff,ff,ff] rfl rfl (any_of HT_.out (by kernel_rfl)) (fun _ _ _ h => h) (Or.inl ⟨by rfl, ?_⟩) ?_ ?_
         rotate_left
         ·intro w'
          go_simp
          with_reducible rfl
         rotate_left
         ·simp only [Act.put, setA, setZ, setS, i64_w, i32_w]
          rfl
         refine pure_ (i := 35) (N := some 71) (v := ?_) (a' := ?_) #[tt,tt,tt,tt,tt,tt,tt,tt,tt,tt,tt,tt,tt,tt,tt,tt,tt,tt,tt,tt,tt,tt,tt,tt,tt,tt,tt,tt,tt,tt,tt,tt,tt,ff,ff,tt,ff,ff,ff,ff,ff,ff] rfl rfl (any_of HT_.out (by kernel_rfl)) (fun _ _ _ h => h) (Or.inl ⟨by rfl, ?_⟩) ?_ ?_
         rotate_left
         ·intro w'
          go_simp
          with_reducible rfl
         rotate_left
         ·simp only [Act.put, setA, setZ, setS, i64_w, i32_w]
          rfl
         refine take_ (i := 33) (N := some 69) (v := ?_) (a' := ?_) #[tt,tt,tt,tt,tt,tt,tt,tt,tt,tt,tt,tt,tt,tt,tt,tt,tt,tt,tt,tt,tt,tt,tt,tt,tt,tt,tt,tt,tt,tt,tt,tt,tt,tt,ff,tt,ff,ff,ff,ff,ff,ff] rfl rfl (take_ofW HT_.out HW_.out (by kernel_rfl)) (fun _ _ _ h => h) (Or.inl ⟨by rfl, ?_⟩) hHeld ?_ ?_
         rotate_left
         ·rintro w' ⟨s0, s1, s2, s3, s4, s5, s6, s7, s8, s9, s10, s11, s12, s13, s14, s15⟩
          go_simp
          with_reducible rfl
         rotate_left
         ·simp only [Act.put, setA, setZ, setS, i64_w, i32_w]
          rfl
         refine one_ (i := 34) (N := some 70) #[tt,tt,tt,tt,tt,tt,tt,tt,tt,tt,tt,tt,tt,tt,tt,tt,tt,tt,tt,tt,tt,tt,tt,tt,tt,tt,tt,tt,tt,tt,tt,tt,tt,tt,tt,tt,ff,ff,ff,ff,ff,ff] rfl rfl (one_of HT_.out (by kernel_rfl)) (by decide) (fun K hK => ?_)
         refine goes_ Try.func15 (by kernel_rfl) rfl #[.agg #[.int .i64 1, .int .u64 t895, .int .u64 t896, .int .u64 t897, .int .u64 t898, .slice none 0 0]] (by rfl) rfl rfl (by (try simp only [List.map_toArray, List.map_cons, List.map_nil]); first | done | rfl | (simp only [List.length_drop, List.length_take]; rfl)) ?_
         refine (regex_Print.calls k1 1 t895 t896 t897 t898 _ _ ([] : List (S29)) t917 _ ?side1 ?side2 ?side3 A37.out).mono ?_
         (case side1 => exact Kd.C_nil _ _)
         (case side2 => exact Nat.le_refl _)
         (case side3 => exact TB.below hT (by repeat (first | (with_reducible first | exact HB.out | apply below_alloc | apply pw_below_drewN | apply below_drew1 | refine below_set ?_ GE889.out | refine below_set ?_ GE894.out | refine below_set ?_ GE899.out) | exact HB.out)))
         rintro e w60 ⟨rfl, hb⟩
         refine ⟨_, rfl, ?_⟩
         have n0_ := Aside0.mk (blk_below (g := gb889) (o := .cells #[.int .u64 x890000_1, .int .u64 x890001_1, .int .u64 x890002_1, .int .u64 x890003_1] 26 (0, 0)) (by (with_reducible repeat (first | refine blk_drewN ?_ _ | refine blk_drew ?_ | refine blk_alloc ?_ _)); exact BK889.out) hb)
         have n1_ := Aside0.mk (blk_below (g := gb894) (o := .cells #[.int .i64 1, .int .u64 x890000_1, .int .u64 x890001_1, .int .u64 x890002_1, .int .u64 x890003_1, .slice none 0 0] 29 (0, 0)) (by (with_reducible repeat (first | refine blk_drewN ?_ _ | refine blk_drew ?_ | refine blk_alloc ?_ _)); exact BK894.out) hb)
         have n2_ := Aside0.mk (blk_below (g := gb899) (o := .cells #[.int .i64 1, .int .u64 t895, .int .u64 t896, .int .u64 t897, .int .u64 t898, .slice none 0 0] 29 (0, 0)) (by (with_reducible repeat (first | refine blk_drewN ?_ _ | refine blk_drew ?_ | refine blk_alloc ?_ _)); exact BK899.out) hb)
         have n3_ := Aside0.mk (below_step (by repeat (first | (with_reducible first | exact HB.out | apply below_alloc | apply pw_below_drewN | apply below_drew1 | refine below_set ?_ GE889.out | refine below_set ?_ GE894.out | refine below_set ?_ GE899.out) | exact HB.out)) hb)
         clear BK889
         clear BK894
         clear BK899
         clear HB
         have BK889 := n0_
         have BK894 := n1_
         have BK899 := n2_
         have HB := n3_
         clear n0_ n1_ n2_ n3_
         (try clear hb)
         (try clear hb2)
         (try clear hk)
         (try clear hi)
         refine hK.out _ _ ⟨(blk_cell BK889.out 0).trans rfl, (blk_cell BK889.out 1).trans rfl, (blk_cell BK889.out 2).trans rfl, (blk_cell BK889.out 3).trans rfl, (blk_cell BK894.out 0).trans rfl, (blk_cell BK894.out 1).trans rfl, (blk_cell BK894.out 2).trans rfl, (blk_cell BK894.out 3).trans rfl, (blk_cell BK894.out 4).trans rfl, (blk_cell BK894.out 5).trans rfl, (blk_cell BK899.out 0).trans rfl, (blk_cell BK899.out 1).trans rfl, (blk_cell BK899.out 2).trans rfl, (blk_cell BK899.out 3).trans rfl, (blk_cell BK899.out 4).trans rfl, (blk_cell BK899.out 5).trans rfl⟩ (fun hHeld => ?_)
         clear hK K
         refine norm_ (a' := ?_) ?_ ?_
         rotate_left
         ·show Act.put _ (some 70) _ = _
          simp only [Act.put, setA, setZ, setS, i64_w, i32_w]
          rfl
         refine one_ (i := 36) (N := some 72) #[tt,tt,tt,tt,tt,tt,tt,tt,tt,tt,tt,tt,tt,tt,tt,tt,tt,tt,tt,tt,tt,tt,tt,tt,tt,tt,tt,tt,tt,tt,tt,tt,tt,tt,tt,tt,tt,ff,ff,ff,ff,ff] rfl rfl (one_of HT_.out (by kernel_rfl)) (by decide) (fun K hK => ?_)
         refine goes_ Try.func18 (by kernel_rfl) rfl #[.string t888, .bool true] (by rfl) rfl rfl (by (try simp only [List.map_toArray, List.map_cons, List.map_nil]); first | done | rfl | (simp only [List.length_drop, List.length_take]; rfl)) ?_
         with_reducible refine (scriberef09_Bytes.calls k1 t888 true t918 _ ?side1 A38.out).mono ?_
         (case side1 => exact TB.below hT (by repeat (first | (with_reducible first | exact HB.out | apply below_alloc | apply pw_below_drewN | apply below_drew1 | refine below_set ?_ GE889.out | refine below_set ?_ GE894.out | refine below_set ?_ GE899.out) | exact HB.out)))
         rintro e w61 ⟨rfl, hb⟩
         refine ⟨_, rfl, ?_⟩
         have n0_ := Aside0.mk (blk_below (g := gb889) (o := .cells #[.int .u64 x890000_1, .int .u64 x890001_1, .int .u64 x890002_1, .int .u64 x890003_1] 26 (0, 0)) (by (with_reducible repeat (first | refine blk_drewN ?_ _ | refine blk_drew ?_ | refine blk_alloc ?_ _)); exact BK889.out) hb)
         have n1_ := Aside0.mk (blk_below (g := gb894) (o := .cells #[.int .i64 1, .int .u64 x890000_1, .int .u64 x890001_1, .int .u64 x890002_1, .int .u64 x890003_1, .slice none 0 0] 29 (0, 0)) (by (with_reducible repeat (first | refine blk_drewN ?_ _ | refine blk_drew ?_ | refine blk_alloc ?_ _)); exact BK894.out) hb)
         have n2_ := Aside0.mk (blk_below (g := gb899) (o := .cells #[.int .i64 1, .int .u64 t895, .int .u64 t896, .int .u64 t897, .int .u64 t898, .slice none 0 0] 29 (0, 0)) (by (with_reducible repeat (first | refine blk_drewN ?_ _ | refine blk_drew ?_ | refine blk_alloc ?_ _)); exact BK899.out) hb)
         have n3_ := Aside0.mk (below_step (by repeat (first | (with_reducible first | exact HB.out | apply below_alloc | apply pw_below_drewN | apply below_drew1 | refine below_set ?_ GE889.out | refine below_set ?_ GE894.out | refine below_set ?_ GE899.out) | exact HB.out)) hb)
         clear BK889
         clear BK894
         clear BK899
         clear HB
         have BK889 := n0_
         have BK894 := n1_
         have BK899 := n2_
         have HB := n3_
         clear n0_ n1_ n2_ n3_
         (try clear hb)
         (try clear hb2)
         (try clear hk)
         (try clear hi)
         refine hK.out _ _ ⟨(blk_cell BK889.out 0).trans rfl, (blk_cell BK889.out 1).trans rfl, (blk_cell BK889.out 2).trans rfl, (blk_cell BK889.out 3).trans rfl, (blk_cell BK894.out 0).trans rfl, (blk_cell BK894.out 1).trans rfl, (blk_cell BK894.out 2).trans rfl, (blk_cell BK894.out 3).trans rfl, (blk_cell BK894.out 4).trans rfl, (blk_cell BK894.out 5).trans rfl, (blk_cell BK899.out 0).trans rfl, (blk_cell BK899.out 1).trans rfl, (blk_cell BK899.out 2).trans rfl, (blk_cell BK899.out 3).trans rfl, (blk_cell BK899.out 4).trans rfl, (blk_cell BK899.out 5).trans rfl⟩ (fun hHeld => ?_)
         clear hK K
         refine norm_ (a' := ?_) ?_ ?_
         rotate_left
         ·show Act.put _ (some 72) _ = _
          simp only [Act.put, setA, setZ, setS, i64_w, i32_w]
          rfl
         refine pure_ (i := 37) (N := some 73) (v := ?_) (a' := ?_) #[tt,tt,tt,tt,tt,tt,tt,tt,tt,tt,tt,tt,tt,tt,tt,tt,tt,tt,tt,tt,tt,tt,tt,tt,tt,tt,tt,tt,tt,tt,tt,tt,tt,tt,tt,tt,tt,tt,ff,ff,ff,ff] rfl rfl (any_of HT_.out (by kernel_rfl)) (fun _ _ _ h => h) (Or.inl ⟨by rfl, ?_⟩) ?_ ?_
         rotate_left
         ·intro w'
          go_simp
          with_reducible rfl
         rotate_left
         ·simp only [Act.put, setA, setZ, setS, i64_w, i32_w]
          rfl
         refine one_ (i := 38) (N := some 74) #[tt,tt,tt,tt,tt,tt,tt,tt,tt,tt,tt,tt,tt,tt,tt,tt,tt,tt,tt,tt,tt,tt,tt,tt,tt,tt,tt,tt,tt,tt,tt,tt,tt,tt,tt,tt,tt,tt,tt,ff,ff,ff] rfl rfl (one_of HT_.out (by kernel_rfl)) (by decide) (fun K hK => ?_)
         refine goes_ Try.func16 (by kernel_rfl) rfl #[.agg #[.int .i64 1, .string t918, .slice none 0 0]] (by rfl) rfl rfl (by (try simp only [List.map_toArray, List.map_cons, List.map_nil]); first | done | rfl | (simp only [List.length_drop, List.length_take]; rfl)) ?_
         refine (scriberef09_Print.calls k1 1 t918 _ _ ([] : List (S39)) t919 _ ?side1 ?side2 ?side3 A39.out).mono ?_
         (case side1 => exact Kd.C_nil _ _)
         (case side2 => exact Nat.le_refl _)
         (case side3 => exact TB.below hT (by repeat (first | (with_reducible first | exact HB.out | apply below_alloc | apply pw_below_drewN | apply below_drew1 | refine below_set ?_ GE889.out | refine below_set ?_ GE894.out | refine below_set ?_ GE899.out) | exact HB.out)))
         rintro e w62 ⟨rfl, hb⟩
         refine ⟨_, rfl, ?_⟩
         have n0_ := Aside0.mk (blk_below (g := gb889) (o := .cells #[.int .u64 x890000_1, .int .u64 x890001_1, .int .u64 x890002_1, .int .u64 x890003_1] 26 (0, 0)) (by (with_reducible repeat (first | refine blk_drewN ?_ _ | refine blk_drew ?_ | refine blk_alloc ?_ _)); exact BK889.out) hb)
         have n1_ := Aside0.mk (blk_below (g := gb894) (o := .cells #[.int .i64 1, .int .u64 x890000_1, .int .u64 x890001_1, .int .u64 x890002_1, .int .u64 x890003_1, .slice none 0 0] 29 (0, 0)) (by (with_reducible repeat (first | refine blk_drewN ?_ _ | refine blk_drew ?_ | refine blk_alloc ?_ _)); exact BK894.out) hb)
         have n2_ := Aside0.mk (blk_below (g := gb899) (o := .cells #[.int .i64 1, .int .u64 t895, .int .u64 t896, .int .u64 t897, .int .u64 t898, .slice none 0 0] 29 (0, 0)) (by (with_reducible repeat (first | refine blk_drewN ?_ _ | refine blk_drew ?_ | refine blk_alloc ?_ _)); exact BK899.out) hb)
         have n3_ := Aside0.mk (below_step (by repeat (first | (with_reducible first | exact HB.out | apply below_alloc | apply pw_below_drewN | apply below_drew1 | refine below_set ?_ GE889.out | refine below_set ?_ GE894.out | refine below_set ?_ GE899.out) | exact HB.out)) hb)
         clear BK889
         clear BK894
         clear BK899
         clear HB
         have BK889 := n0_
         have BK894 := n1_
         have BK899 := n2_
         have HB := n3_
         clear n0_ n1_ n2_ n3_
         (try clear hb)
         (try clear hb2)
         (try clear hk)
         (try clear hi)
         refine hK.out _ _ ⟨(blk_cell BK889.out 0).trans rfl, (blk_cell BK889.out 1).trans rfl, (blk_cell BK889.out 2).trans rfl, (blk_cell BK889.out 3).trans rfl, (blk_cell BK894.out 0).trans rfl, (blk_cell BK894.out 1).trans rfl, (blk_cell BK894.out 2).trans rfl, (blk_cell BK894.out 3).trans rfl, (blk_cell BK894.out 4).trans rfl, (blk_cell BK894.out 5).trans rfl, (blk_cell BK899.out 0).trans rfl, (blk_cell BK899.out 1).trans rfl, (blk_cell BK899.out 2).trans rfl, (blk_cell BK899.out 3).trans rfl, (blk_cell BK899.out 4).trans rfl, (blk_cell BK899.out 5).trans rfl⟩ (fun hHeld => ?_)
         clear hK K
         refine norm_ (a' := ?_) ?_ ?_
         rotate_left
         ·show Act.put _ (some 74) _ = _
          simp only [Act.put, setA, setZ, setS, i64_w, i32_w]
          rfl
         refine pure_ (i := 39) (N := some 75) (v := ?_) (a' := ?_) #[tt,tt,tt,tt,tt,tt,tt,tt,tt,tt,tt,tt,tt,tt,tt,tt,tt,tt,tt,tt,tt,tt,tt,tt,tt,tt,tt,tt,tt,tt,tt,tt,tt,tt,tt,tt,tt,tt,tt,tt,ff,ff] rfl rfl (any_of HT_.out (by kernel_rfl)) (fun _ _ _ h => h) (Or.inl ⟨by rfl, ?_⟩) ?_ ?_
         rotate_left
         ·intro w'
          go_simp
          with_reducible rfl
         rotate_left
         ·simp only [Act.put, setA, setZ, setS, i64_w, i32_w]
          rfl
         refine pure_ (i := 40) (N := some 76) (v := ?_) (a' := ?_) #[tt,tt,tt,tt,tt,tt,tt,tt,tt,tt,tt,tt,tt,tt,tt,tt,tt,tt,tt,tt,tt,tt,tt,tt,tt,tt,tt,tt,tt,tt,tt,tt,tt,tt,tt,tt,tt,tt,tt,tt,tt,ff] rfl rfl (any_of HT_.out (by kernel_rfl)) (fun _ _ _ h => h) (Or.inl ⟨by rfl, ?_⟩) ?_ ?_
         rotate_left
         ·intro w'
          go_simp
          with_reducible rfl
         rotate_left
         ·simp only [Act.put, setA, setZ, setS, i64_w, i32_w]
          rfl
         refine pure_ (i := 41) (N := some 4) (v := ?_) (a' := ?_) #[tt,tt,tt,tt,tt,tt,tt,tt,tt,tt,tt,tt,tt,tt,tt,tt,tt,tt,tt,tt,tt,tt,tt,tt,tt,tt,tt,tt,tt,tt,tt,tt,tt,tt,tt,tt,tt,tt,tt,tt,tt,tt] rfl rfl (any_of HT_.out (by kernel_rfl)) (fun _ _ _ h => h) (Or.inl ⟨by rfl, ?_⟩) ?_ ?_
         rotate_left
         ·intro w'
          go_simp
          with_reducible rfl
         rotate_left
         ·simp only [Act.put, setA, setZ, setS, i64_w, i32_w]
          rfl
         refine done_ (done_of HT_.out (by kernel_rfl)) ?_
         try go_wp2
         go_ret
         exact ⟨by first | rfl | (simp [errW_none, errW_some] <;> rfl) | (simp [errW_none, errW_some] <;> first | rfl | exact isEmpty_bne _) | (simp [*, errW_none, errW_some] <;> rfl), by repeat (first | (with_reducible first | exact HB.out | apply below_alloc | apply pw_below_drewN | apply below_drew1 | refine below_set ?_ GE889.out | refine below_set ?_ GE894.out | refine below_set ?_ GE899.out) | exact HB.out)⟩
        ·rw [if_neg c36] at H
         exact absurd H (by simp)
       ·rw [if_neg c33] at H
        exact absurd H (by simp)
      ·rw [if_neg c30] at H
       exact absurd H (by simp)
     ·rw [if_neg c27] at H
      exact absurd H (by simp)
    ·replace c25 := Bool.eq_false_iff.mpr c25
     subst c25
     have H1 : (none) = some r := by rw [if_neg (show ¬ (false = true) by decide)] at H; exact H
     exact absurd H1 (by simp)
end Go.Proofs.Ytdjnjhmmpjbbaaa.Pr
