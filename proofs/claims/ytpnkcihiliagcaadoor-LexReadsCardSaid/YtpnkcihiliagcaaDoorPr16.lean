/- The machine's side, written by a patched print (wip/tools): each theorem says that a call of the Go function comes to what the Lean function beside it computes, where the tables are laid (TB). -/
import Derived.Test.YtpnkcihiliagcaaDoorPr0
namespace Go.Proofs.YtpnkcihiliagcaaDoor.Pr
open Go.RowKit Go.Proofs.YtpnkcihiliagcaaDoorW.PrintWords Go.Proofs.YtpnkcihiliagcaaDoorW.PrintLast Go.Proofs.YtpnkcihiliagcaaDoorW.PrintMore
attribute [local go_sem] fld29_0 fld29_1 fld29_2 fld43_0 fld43_1 fld43_2 fld46_0 fld46_1 fld46_2 binOp_string_gtr2 binOp_string_leq2 binOp_string_geq2 max2_int min2_int max_two min_two max_three min_three max_four min_four   -- for this text's walks alone
set_option linter.unusedVariables false
set_option linter.unusedSimpArgs false

/-! ### scriberef11_Print: function 16 -/
def scriberef11_Print.l0 : Nat → ByteArray → List (S46) → Int → Int → Option (ByteArray)
 | 0, _, _, _, _ => none
 | k + 1, x3, x6, x7, x8 => if x8 < x7 then (if 0 ≤ x8 then (if x8 < (x6.length : Int) then (if ((rd_T46 x6 x8).f0) = 0 then (if x3.size + 3 ≤ 9223372036854775807 then (if ((rd_T46 x6 x8).f1).size + 1 ≤ 9223372036854775807 then (if (x3 ++ (⟨#[69, 78, 68]⟩ : ByteArray)).size + (((rd_T46 x6 x8).f1) ++ (⟨#[32]⟩ : ByteArray)).size ≤ 9223372036854775807 then (scriberef11_Print.l0 k ((x3 ++ (⟨#[69, 78, 68]⟩ : ByteArray)) ++ (((rd_T46 x6 x8).f1) ++ (⟨#[32]⟩ : ByteArray))) x6 x7 (wrap64 (x8 + 1))) else (none)) else (none)) else (none)) else (if ((rd_T46 x6 x8).f0) = 1 then (if x3.size + 2 ≤ 9223372036854775807 then (if ((rd_T46 x6 x8).f1).size + 1 ≤ 9223372036854775807 then (if (x3 ++ (⟨#[78, 76]⟩ : ByteArray)).size + (((rd_T46 x6 x8).f1) ++ (⟨#[32]⟩ : ByteArray)).size ≤ 9223372036854775807 then (scriberef11_Print.l0 k ((x3 ++ (⟨#[78, 76]⟩ : ByteArray)) ++ (((rd_T46 x6 x8).f1) ++ (⟨#[32]⟩ : ByteArray))) x6 x7 (wrap64 (x8 + 1))) else (none)) else (none)) else (none)) else (if ((rd_T46 x6 x8).f0) = 2 then (if x3.size + 4 ≤ 9223372036854775807 then (if ((rd_T46 x6 x8).f1).size + 1 ≤ 9223372036854775807 then (if (x3 ++ (⟨#[110, 117, 109, 58]⟩ : ByteArray)).size + (((rd_T46 x6 x8).f1) ++ (⟨#[32]⟩ : ByteArray)).size ≤ 9223372036854775807 then (scriberef11_Print.l0 k ((x3 ++ (⟨#[110, 117, 109, 58]⟩ : ByteArray)) ++ (((rd_T46 x6 x8).f1) ++ (⟨#[32]⟩ : ByteArray))) x6 x7 (wrap64 (x8 + 1))) else (none)) else (none)) else (none)) else (if ((rd_T46 x6 x8).f0) = 3 then (if x3.size + 4 ≤ 9223372036854775807 then (if ((rd_T46 x6 x8).f1).size + 1 ≤ 9223372036854775807 then (if (x3 ++ (⟨#[115, 116, 114, 58]⟩ : ByteArray)).size + (((rd_T46 x6 x8).f1) ++ (⟨#[32]⟩ : ByteArray)).size ≤ 9223372036854775807 then (scriberef11_Print.l0 k ((x3 ++ (⟨#[115, 116, 114, 58]⟩ : ByteArray)) ++ (((rd_T46 x6 x8).f1) ++ (⟨#[32]⟩ : ByteArray))) x6 x7 (wrap64 (x8 + 1))) else (none)) else (none)) else (none)) else (if ((rd_T46 x6 x8).f0) = 4 then (if x3.size + 3 ≤ 9223372036854775807 then (if ((rd_T46 x6 x8).f1).size + 1 ≤ 9223372036854775807 then (if (x3 ++ (⟨#[114, 101, 58]⟩ : ByteArray)).size + (((rd_T46 x6 x8).f1) ++ (⟨#[32]⟩ : ByteArray)).size ≤ 9223372036854775807 then (scriberef11_Print.l0 k ((x3 ++ (⟨#[114, 101, 58]⟩ : ByteArray)) ++ (((rd_T46 x6 x8).f1) ++ (⟨#[32]⟩ : ByteArray))) x6 x7 (wrap64 (x8 + 1))) else (none)) else (none)) else (none)) else (if ((rd_T46 x6 x8).f0) = 5 then (if x3.size + 5 ≤ 9223372036854775807 then (if ((rd_T46 x6 x8).f1).size + 1 ≤ 9223372036854775807 then (if (x3 ++ (⟨#[110, 97, 109, 101, 58]⟩ : ByteArray)).size + (((rd_T46 x6 x8).f1) ++ (⟨#[32]⟩ : ByteArray)).size ≤ 9223372036854775807 then (scriberef11_Print.l0 k ((x3 ++ (⟨#[110, 97, 109, 101, 58]⟩ : ByteArray)) ++ (((rd_T46 x6 x8).f1) ++ (⟨#[32]⟩ : ByteArray))) x6 x7 (wrap64 (x8 + 1))) else (none)) else (none)) else (none)) else (if ((rd_T46 x6 x8).f0) = 6 then (if x3.size + 5 ≤ 9223372036854775807 then (if ((rd_T46 x6 x8).f1).size + 1 ≤ 9223372036854775807 then (if (x3 ++ (⟨#[102, 117, 110, 99, 58]⟩ : ByteArray)).size + (((rd_T46 x6 x8).f1) ++ (⟨#[32]⟩ : ByteArray)).size ≤ 9223372036854775807 then (scriberef11_Print.l0 k ((x3 ++ (⟨#[102, 117, 110, 99, 58]⟩ : ByteArray)) ++ (((rd_T46 x6 x8).f1) ++ (⟨#[32]⟩ : ByteArray))) x6 x7 (wrap64 (x8 + 1))) else (none)) else (none)) else (none)) else (if ((rd_T46 x6 x8).f0) = 7 then (if x3.size + 5 ≤ 9223372036854775807 then (if ((rd_T46 x6 x8).f1).size + 1 ≤ 9223372036854775807 then (if (x3 ++ (⟨#[119, 111, 114, 100, 58]⟩ : ByteArray)).size + (((rd_T46 x6 x8).f1) ++ (⟨#[32]⟩ : ByteArray)).size ≤ 9223372036854775807 then (scriberef11_Print.l0 k ((x3 ++ (⟨#[119, 111, 114, 100, 58]⟩ : ByteArray)) ++ (((rd_T46 x6 x8).f1) ++ (⟨#[32]⟩ : ByteArray))) x6 x7 (wrap64 (x8 + 1))) else (none)) else (none)) else (none)) else (if ((rd_T46 x6 x8).f0) = 8 then (if x3.size + 5 ≤ 9223372036854775807 then (if ((rd_T46 x6 x8).f1).size + 1 ≤ 9223372036854775807 then (if (x3 ++ (⟨#[115, 105, 103, 110, 58]⟩ : ByteArray)).size + (((rd_T46 x6 x8).f1) ++ (⟨#[32]⟩ : ByteArray)).size ≤ 9223372036854775807 then (scriberef11_Print.l0 k ((x3 ++ (⟨#[115, 105, 103, 110, 58]⟩ : ByteArray)) ++ (((rd_T46 x6 x8).f1) ++ (⟨#[32]⟩ : ByteArray))) x6 x7 (wrap64 (x8 + 1))) else (none)) else (none)) else (none)) else (if ((rd_T46 x6 x8).f0) = 9 then (if x3.size + 8 ≤ 9223372036854775807 then (if ((rd_T46 x6 x8).f1).size + 1 ≤ 9223372036854775807 then (if (x3 ++ (⟨#[98, 117, 105, 108, 116, 105, 110, 58]⟩ : ByteArray)).size + (((rd_T46 x6 x8).f1) ++ (⟨#[32]⟩ : ByteArray)).size ≤ 9223372036854775807 then (scriberef11_Print.l0 k ((x3 ++ (⟨#[98, 117, 105, 108, 116, 105, 110, 58]⟩ : ByteArray)) ++ (((rd_T46 x6 x8).f1) ++ (⟨#[32]⟩ : ByteArray))) x6 x7 (wrap64 (x8 + 1))) else (none)) else (none)) else (none)) else (if ((rd_T46 x6 x8).f0) = 10 then (if x3.size + 7 ≤ 9223372036854775807 then (if ((rd_T46 x6 x8).f1).size + 1 ≤ 9223372036854775807 then (if (x3 ++ (⟨#[98, 97, 110, 110, 101, 100, 58]⟩ : ByteArray)).size + (((rd_T46 x6 x8).f1) ++ (⟨#[32]⟩ : ByteArray)).size ≤ 9223372036854775807 then (scriberef11_Print.l0 k ((x3 ++ (⟨#[98, 97, 110, 110, 101, 100, 58]⟩ : ByteArray)) ++ (((rd_T46 x6 x8).f1) ++ (⟨#[32]⟩ : ByteArray))) x6 x7 (wrap64 (x8 + 1))) else (none)) else (none)) else (none)) else (if ((rd_T46 x6 x8).f1).size + 1 ≤ 9223372036854775807 then (if x3.size + (((rd_T46 x6 x8).f1) ++ (⟨#[32]⟩ : ByteArray)).size ≤ 9223372036854775807 then (scriberef11_Print.l0 k (x3 ++ (((rd_T46 x6 x8).f1) ++ (⟨#[32]⟩ : ByteArray))) x6 x7 (wrap64 (x8 + 1))) else (none)) else (none))))))))))))) else (none)) else (none)) else (some x3)
def scriberef11_Print.f (k : Nat) (l0 : List (S46)) : Option (ByteArray) := scriberef11_Print.l0 k (⟨#[]⟩ : ByteArray) l0 (l0.length : Int) 0
theorem scriberef11_Print.mono_l : ∀ k, (∀ y0 y1 y2 y3, LeO (scriberef11_Print.l0 k y0 y1 y2 y3) (scriberef11_Print.l0 (k + 1) y0 y1 y2 y3))
 | 0 => fun _ _ _ _ r h => by simp [scriberef11_Print.l0] at h
 | k + 1 => by
  have ih0 := scriberef11_Print.mono_l k
  ·intro y0 y1 y2 y3
   unfold scriberef11_Print.l0
   repeat' first
   | (with_reducible exact ih0 _ _ _ _)
   | (with_reducible exact LeO.refl _)
   | (with_reducible exact LeO.none _)
   | (with_reducible refine LeO.ite ?_ ?_)
   | (with_reducible refine LeO.bind ?_ (fun _ => ?_))
   | exact ih0 _ _ _ _
   | exact LeO.none _
   | refine LeO.ite ?_ ?_
   | refine LeO.bind ?_ (fun _ => ?_)
theorem scriberef11_Print.mono : ∀ a0 k, LeO (scriberef11_Print.f k a0) (scriberef11_Print.f (k + 1) a0) := by
 intro a0 k
 have ih0 := scriberef11_Print.mono_l k
 unfold scriberef11_Print.f
 repeat' first
   | (with_reducible exact ih0 _ _ _ _)
   | (with_reducible exact LeO.refl _)
   | (with_reducible exact LeO.none _)
   | (with_reducible refine LeO.ite ?_ ?_)
   | (with_reducible refine LeO.bind ?_ (fun _ => ?_))
   | exact ih0 _ _ _ _
   | exact LeO.none _
   | refine LeO.ite ?_ ?_
   | refine LeO.bind ?_ (fun _ => ?_)
set_option maxHeartbeats 8000000 in
set_option maxRecDepth 100000 in
theorem scriberef11_Print.calls (k : Nat) (A0 : Option Addr) (c0 : Nat) (l0 : List (S46)) (r : ByteArray) (w : World) (hr0 : Kd.C k46 w A0 l0.length l0) (hc0 : l0.length ≤ c0) (hT : TB w) (h : scriberef11_Print.f k l0 = some r) :
  Calls Tryd.prog 16 #[.slice A0 l0.length c0] w fun e w' => e = .returned (.string r) ∧ Below w.heap.size w w' := by
 have hu46 := Tryd.underlying46
 have HR0 := Aside0.mk hr0
 have HC0 := Aside0.mk hc0
 clear hr0 hc0
 have HB := Aside0.mk (Below.refl w.heap.size w)
 have H : (scriberef11_Print.l0 k (⟨#[]⟩ : ByteArray) l0 (l0.length : Int) 0) = some r := h
 clear h
 have H' := Aside0.mk H
 clear H
 go_enter Tryd.func16, Tryd.ntmps16
 go_wp2
 go_loopg [3, 8] k (fun kq v3 v8 w' => ∃ (x3_1 : ByteArray) (x8_1 : Int), v3 = .string x3_1 ∧ v8 = .int .i64 x8_1 ∧ Aside0 (scriberef11_Print.l0 kq x3_1 l0 (l0.length : Int) x8_1 = some r) ∧ Aside0 (kq ≤ k) ∧ Aside0 (Below w.heap.size w w'))
 case atStart => exact ⟨((⟨#[]⟩ : ByteArray)), (0), (by first | rfl | (simp; done) | (simp [*]; done) | (simp; unfold wrap64; omega)), (by first | rfl | (simp; done) | (simp [*]; done) | (simp; unfold wrap64; omega)), H', ⟨Nat.le_refl _⟩, ⟨by repeat (first | (with_reducible first | exact HB.out | apply below_alloc | apply pw_below_drewN | apply below_drew1) | exact HB.out)⟩⟩
 case round =>
  clear H'
  try clear c1
  obtain ⟨x3_1, x8_1, rfl, rfl, HA, HK1, HB⟩ := hrel
  cases gk with
  | zero => exact absurd HA.out (by simp [scriberef11_Print.l0])
  | succ k1 =>
   have H := HA.out
   clear HA
   simp only [scriberef11_Print.l0] at H
   by_cases c2 : x8_1 < (l0.length : Int)
   ·rw [if_pos c2] at H
    have c2b0 : decide (x8_1 < (l0.length : Int)) = true := decide_eq_true c2
    clear c2
    by_cases c3 : 0 ≤ x8_1
    ·rw [if_pos c3] at H
     have c3b0 : decide (0 ≤ x8_1) = true := decide_eq_true c3
     clear c3
     by_cases c4 : x8_1 < (l0.length : Int)
     ·rw [if_pos c4] at H
      have c4b0 : decide (x8_1 < (l0.length : Int)) = true := decide_eq_true c4
      clear c4
      by_cases c5 : ((rd_T46 l0 x8_1).f0) = 0
      ·rw [if_pos c5] at H
       have c5b0 : (((rd_T46 l0 x8_1).f0) == 0) = true := beq_iff_eq.mpr c5
       have c5b1 : (((rd_T46 l0 x8_1).f0) != 0) = false := bne_eq_false_iff_eq.mpr c5
       clear c5
       by_cases c6 : x3_1.size + 3 ≤ 9223372036854775807
       ·rw [if_pos c6] at H
        have c6b0 := eq_true c6
        have c6b1 : decide (x3_1.size + 3 ≤ 9223372036854775807) = true := decide_eq_true c6
        try have c6b2 : (9223372036854775807 < x3_1.size + 3) = False := eq_false (Nat.not_lt.2 c6)
        try (have c6b3 := c6b2; simp only [ByteArray.size_append', ba_size_mk, List.size_toArray, List.length_cons, List.length_nil, Nat.zero_add, Nat.reduceAdd, ByteArray.size_extract, Nat.min_self, Nat.sub_zero] at c6b3)
        by_cases c7 : ((rd_T46 l0 x8_1).f1).size + 1 ≤ 9223372036854775807
        ·rw [if_pos c7] at H
         have c7b0 := eq_true c7
         have c7b1 : decide (((rd_T46 l0 x8_1).f1).size + 1 ≤ 9223372036854775807) = true := decide_eq_true c7
         try have c7b2 : (9223372036854775807 < ((rd_T46 l0 x8_1).f1).size + 1) = False := eq_false (Nat.not_lt.2 c7)
         try (have c7b3 := c7b2; simp only [ByteArray.size_append', ba_size_mk, List.size_toArray, List.length_cons, List.length_nil, Nat.zero_add, Nat.reduceAdd, ByteArray.size_extract, Nat.min_self, Nat.sub_zero] at c7b3)
         by_cases c8 : (x3_1 ++ (⟨#[69, 78, 68]⟩ : ByteArray)).size + (((rd_T46 l0 x8_1).f1) ++ (⟨#[32]⟩ : ByteArray)).size ≤ 9223372036854775807
         ·rw [if_pos c8] at H
          have c8b0 := eq_true c8
          have c8b1 : decide ((x3_1 ++ (⟨#[69, 78, 68]⟩ : ByteArray)).size + (((rd_T46 l0 x8_1).f1) ++ (⟨#[32]⟩ : ByteArray)).size ≤ 9223372036854775807) = true := decide_eq_true c8
          try have c8b2 : (9223372036854775807 < (x3_1 ++ (⟨#[69, 78, 68]⟩ : ByteArray)).size + (((rd_T46 l0 x8_1).f1) ++ (⟨#[32]⟩ : ByteArray)).size) = False := eq_false (Nat.not_lt.2 c8)
          try (have c8b3 := c8b2; simp only [ByteArray.size_append', ba_size_mk, List.size_toArray, List.length_cons, List.length_nil, Nat.zero_add, Nat.reduceAdd, ByteArray.size_extract, Nat.min_self, Nat.sub_zero] at c8b3)
          have H' := Aside0.mk H
          clear H
          have p272 : 0 ≤ (x8_1 : Int) := of_decide_eq_true (by first | (with_reducible assumption) | assumption)
          have q272 : x8_1 < (l0.length : Int) := of_decide_eq_true (by first | (with_reducible assumption) | assumption)
          obtain ⟨ad272, e272, hx272_0, hx272_1, hx272_2⟩ := at_T46 HR0.out x8_1 p272 q272
          cases e272
          replace hx272_0 := (HB.out.cell (World.block_lt_of_cell? w _ hx272_0)).trans hx272_0
          replace hx272_1 := (HB.out.cell (World.block_lt_of_cell? w _ hx272_1)).trans hx272_1
          replace hx272_2 := (HB.out.cell (World.block_lt_of_cell? w _ hx272_2)).trans hx272_2
          replace p272 := eq_true p272
          replace q272 := eq_true q272
          go_wp2_with (first | ((with_reducible refine gate_dst (N := 5) rfl ?_); refine box_event ?hg (N := 5) ?hd (cs := #[.int .i64 0, .string (⟨#[]⟩ : ByteArray), .int .i64 0]) (t := 46) ?hr ?_; (case hd => rfl); (case hg => rfl); (case hr => first | (go_simp; done) | (go_simp; rfl)); intro gb273 hg w9 hbox hb; have n0_ := Aside0.mk (below_step (by repeat (first | (with_reducible first | exact HB.out | apply below_alloc | apply pw_below_drewN | apply below_drew1) | exact HB.out)) hb); have n1_ := Aside0.mk (hbox); have n2_ := Aside0.mk ((by rw [hg]; exact (below_size (by repeat (first | (with_reducible first | exact HB.out | apply below_alloc | apply pw_below_drewN | apply below_drew1) | exact HB.out))) : w.heap.size ≤ gb273)); have n3_ := Aside0.mk ((by rw [hg]; exact (below_size (by repeat (first | (with_reducible first | exact HB.out | apply below_alloc | apply pw_below_drewN | apply below_drew1) | exact HB.out))) : w.heap.size ≤ gb273)); clear HB; have HB := n0_; have BK273 := n1_; have GW273 := n2_; have GE273 := n3_; clear n0_ n1_ n2_ n3_; clear hb hbox hg; have hcz10_0 : w9.cell? ⟨gb273, 0, none⟩ = some (.int .i64 0) := (blk_cell BK273.out 0).trans rfl; have hcz10_1 : w9.cell? ⟨gb273, 1, none⟩ = some (.string (⟨#[]⟩ : ByteArray)) := (blk_cell BK273.out 1).trans rfl; have hcz10_2 : w9.cell? ⟨gb273, 2, none⟩ = some (.int .i64 0) := (blk_cell BK273.out 2).trans rfl; have hfz10_0 := blk_frozen BK273.out 0; have hfz10_1 := blk_frozen BK273.out 1; have hfz10_2 := blk_frozen BK273.out 2))
          go_roundg k1
          case measure => have := HK1.out; omega
          case rel => exact ⟨((x3_1 ++ (⟨#[69, 78, 68]⟩ : ByteArray)) ++ (((rd_T46 l0 x8_1).f1) ++ (⟨#[32]⟩ : ByteArray))), (wrap64 (x8_1 + 1)), (by first | rfl | (simp; done) | (simp [*]; done) | (simp; unfold wrap64; omega)), (by first | rfl | (simp; done) | (simp [*]; done) | (simp; unfold wrap64; omega)), H', ⟨by have := HK1.out; omega⟩, ⟨by repeat (first | (with_reducible first | exact HB.out | apply below_alloc | apply pw_below_drewN | apply below_drew1 | refine below_set ?_ GE273.out) | exact HB.out)⟩⟩
         ·rw [if_neg c8] at H
          exact absurd H (by simp)
        ·rw [if_neg c7] at H
         exact absurd H (by simp)
       ·rw [if_neg c6] at H
        exact absurd H (by simp)
      ·rw [if_neg c5] at H
       have c5b0 : (((rd_T46 l0 x8_1).f0) == 0) = false := beq_eq_false_iff_ne.mpr c5
       have c5b1 : (((rd_T46 l0 x8_1).f0) != 0) = true := bne_iff_ne.mpr c5
       by_cases c11 : ((rd_T46 l0 x8_1).f0) = 1
       ·rw [if_pos c11] at H
        have c11b0 : (((rd_T46 l0 x8_1).f0) == 1) = true := beq_iff_eq.mpr c11
        have c11b1 : (((rd_T46 l0 x8_1).f0) != 1) = false := bne_eq_false_iff_eq.mpr c11
        clear c11
        by_cases c12 : x3_1.size + 2 ≤ 9223372036854775807
        ·rw [if_pos c12] at H
         have c12b0 := eq_true c12
         have c12b1 : decide (x3_1.size + 2 ≤ 9223372036854775807) = true := decide_eq_true c12
         try have c12b2 : (9223372036854775807 < x3_1.size + 2) = False := eq_false (Nat.not_lt.2 c12)
         try (have c12b3 := c12b2; simp only [ByteArray.size_append', ba_size_mk, List.size_toArray, List.length_cons, List.length_nil, Nat.zero_add, Nat.reduceAdd, ByteArray.size_extract, Nat.min_self, Nat.sub_zero] at c12b3)
         by_cases c13 : ((rd_T46 l0 x8_1).f1).size + 1 ≤ 9223372036854775807
         ·rw [if_pos c13] at H
          have c13b0 := eq_true c13
          have c13b1 : decide (((rd_T46 l0 x8_1).f1).size + 1 ≤ 9223372036854775807) = true := decide_eq_true c13
          try have c13b2 : (9223372036854775807 < ((rd_T46 l0 x8_1).f1).size + 1) = False := eq_false (Nat.not_lt.2 c13)
          try (have c13b3 := c13b2; simp only [ByteArray.size_append', ba_size_mk, List.size_toArray, List.length_cons, List.length_nil, Nat.zero_add, Nat.reduceAdd, ByteArray.size_extract, Nat.min_self, Nat.sub_zero] at c13b3)
          by_cases c14 : (x3_1 ++ (⟨#[78, 76]⟩ : ByteArray)).size + (((rd_T46 l0 x8_1).f1) ++ (⟨#[32]⟩ : ByteArray)).size ≤ 9223372036854775807
          ·rw [if_pos c14] at H
           have c14b0 := eq_true c14
           have c14b1 : decide ((x3_1 ++ (⟨#[78, 76]⟩ : ByteArray)).size + (((rd_T46 l0 x8_1).f1) ++ (⟨#[32]⟩ : ByteArray)).size ≤ 9223372036854775807) = true := decide_eq_true c14
           try have c14b2 : (9223372036854775807 < (x3_1 ++ (⟨#[78, 76]⟩ : ByteArray)).size + (((rd_T46 l0 x8_1).f1) ++ (⟨#[32]⟩ : ByteArray)).size) = False := eq_false (Nat.not_lt.2 c14)
           try (have c14b3 := c14b2; simp only [ByteArray.size_append', ba_size_mk, List.size_toArray, List.length_cons, List.length_nil, Nat.zero_add, Nat.reduceAdd, ByteArray.size_extract, Nat.min_self, Nat.sub_zero] at c14b3)
           have H' := Aside0.mk H
           clear H
           have p272 : 0 ≤ (x8_1 : Int) := of_decide_eq_true (by first | (with_reducible assumption) | assumption)
           have q272 : x8_1 < (l0.length : Int) := of_decide_eq_true (by first | (with_reducible assumption) | assumption)
           obtain ⟨ad272, e272, hx272_0, hx272_1, hx272_2⟩ := at_T46 HR0.out x8_1 p272 q272
           cases e272
           replace hx272_0 := (HB.out.cell (World.block_lt_of_cell? w _ hx272_0)).trans hx272_0
           replace hx272_1 := (HB.out.cell (World.block_lt_of_cell? w _ hx272_1)).trans hx272_1
           replace hx272_2 := (HB.out.cell (World.block_lt_of_cell? w _ hx272_2)).trans hx272_2
           replace p272 := eq_true p272
           replace q272 := eq_true q272
           go_wp2_with (first | ((with_reducible refine gate_dst (N := 5) rfl ?_); refine box_event ?hg (N := 5) ?hd (cs := #[.int .i64 0, .string (⟨#[]⟩ : ByteArray), .int .i64 0]) (t := 46) ?hr ?_; (case hd => rfl); (case hg => rfl); (case hr => first | (go_simp; done) | (go_simp; rfl)); intro gb273 hg w15 hbox hb; have n0_ := Aside0.mk (below_step (by repeat (first | (with_reducible first | exact HB.out | apply below_alloc | apply pw_below_drewN | apply below_drew1) | exact HB.out)) hb); have n1_ := Aside0.mk (hbox); have n2_ := Aside0.mk ((by rw [hg]; exact (below_size (by repeat (first | (with_reducible first | exact HB.out | apply below_alloc | apply pw_below_drewN | apply below_drew1) | exact HB.out))) : w.heap.size ≤ gb273)); have n3_ := Aside0.mk ((by rw [hg]; exact (below_size (by repeat (first | (with_reducible first | exact HB.out | apply below_alloc | apply pw_below_drewN | apply below_drew1) | exact HB.out))) : w.heap.size ≤ gb273)); clear HB; have HB := n0_; have BK273 := n1_; have GW273 := n2_; have GE273 := n3_; clear n0_ n1_ n2_ n3_; clear hb hbox hg; have hcz16_0 : w15.cell? ⟨gb273, 0, none⟩ = some (.int .i64 0) := (blk_cell BK273.out 0).trans rfl; have hcz16_1 : w15.cell? ⟨gb273, 1, none⟩ = some (.string (⟨#[]⟩ : ByteArray)) := (blk_cell BK273.out 1).trans rfl; have hcz16_2 : w15.cell? ⟨gb273, 2, none⟩ = some (.int .i64 0) := (blk_cell BK273.out 2).trans rfl; have hfz16_0 := blk_frozen BK273.out 0; have hfz16_1 := blk_frozen BK273.out 1; have hfz16_2 := blk_frozen BK273.out 2))
           go_roundg k1
           case measure => have := HK1.out; omega
           case rel => exact ⟨((x3_1 ++ (⟨#[78, 76]⟩ : ByteArray)) ++ (((rd_T46 l0 x8_1).f1) ++ (⟨#[32]⟩ : ByteArray))), (wrap64 (x8_1 + 1)), (by first | rfl | (simp; done) | (simp [*]; done) | (simp; unfold wrap64; omega)), (by first | rfl | (simp; done) | (simp [*]; done) | (simp; unfold wrap64; omega)), H', ⟨by have := HK1.out; omega⟩, ⟨by repeat (first | (with_reducible first | exact HB.out | apply below_alloc | apply pw_below_drewN | apply below_drew1 | refine below_set ?_ GE273.out) | exact HB.out)⟩⟩
          ·rw [if_neg c14] at H
           exact absurd H (by simp)
         ·rw [if_neg c13] at H
          exact absurd H (by simp)
        ·rw [if_neg c12] at H
         exact absurd H (by simp)
       ·rw [if_neg c11] at H
        have c11b0 : (((rd_T46 l0 x8_1).f0) == 1) = false := beq_eq_false_iff_ne.mpr c11
        have c11b1 : (((rd_T46 l0 x8_1).f0) != 1) = true := bne_iff_ne.mpr c11
        by_cases c17 : ((rd_T46 l0 x8_1).f0) = 2
        ·rw [if_pos c17] at H
         have c17b0 : (((rd_T46 l0 x8_1).f0) == 2) = true := beq_iff_eq.mpr c17
         have c17b1 : (((rd_T46 l0 x8_1).f0) != 2) = false := bne_eq_false_iff_eq.mpr c17
         clear c17
         by_cases c18 : x3_1.size + 4 ≤ 9223372036854775807
         ·rw [if_pos c18] at H
          have c18b0 := eq_true c18
          have c18b1 : decide (x3_1.size + 4 ≤ 9223372036854775807) = true := decide_eq_true c18
          try have c18b2 : (9223372036854775807 < x3_1.size + 4) = False := eq_false (Nat.not_lt.2 c18)
          try (have c18b3 := c18b2; simp only [ByteArray.size_append', ba_size_mk, List.size_toArray, List.length_cons, List.length_nil, Nat.zero_add, Nat.reduceAdd, ByteArray.size_extract, Nat.min_self, Nat.sub_zero] at c18b3)
          by_cases c19 : ((rd_T46 l0 x8_1).f1).size + 1 ≤ 9223372036854775807
          ·rw [if_pos c19] at H
           have c19b0 := eq_true c19
           have c19b1 : decide (((rd_T46 l0 x8_1).f1).size + 1 ≤ 9223372036854775807) = true := decide_eq_true c19
           try have c19b2 : (9223372036854775807 < ((rd_T46 l0 x8_1).f1).size + 1) = False := eq_false (Nat.not_lt.2 c19)
           try (have c19b3 := c19b2; simp only [ByteArray.size_append', ba_size_mk, List.size_toArray, List.length_cons, List.length_nil, Nat.zero_add, Nat.reduceAdd, ByteArray.size_extract, Nat.min_self, Nat.sub_zero] at c19b3)
           by_cases c20 : (x3_1 ++ (⟨#[110, 117, 109, 58]⟩ : ByteArray)).size + (((rd_T46 l0 x8_1).f1) ++ (⟨#[32]⟩ : ByteArray)).size ≤ 9223372036854775807
           ·rw [if_pos c20] at H
            have c20b0 := eq_true c20
            have c20b1 : decide ((x3_1 ++ (⟨#[110, 117, 109, 58]⟩ : ByteArray)).size + (((rd_T46 l0 x8_1).f1) ++ (⟨#[32]⟩ : ByteArray)).size ≤ 9223372036854775807) = true := decide_eq_true c20
            try have c20b2 : (9223372036854775807 < (x3_1 ++ (⟨#[110, 117, 109, 58]⟩ : ByteArray)).size + (((rd_T46 l0 x8_1).f1) ++ (⟨#[32]⟩ : ByteArray)).size) = False := eq_false (Nat.not_lt.2 c20)
            try (have c20b3 := c20b2; simp only [ByteArray.size_append', ba_size_mk, List.size_toArray, List.length_cons, List.length_nil, Nat.zero_add, Nat.reduceAdd, ByteArray.size_extract, Nat.min_self, Nat.sub_zero] at c20b3)
            have H' := Aside0.mk H
            clear H
            have p272 : 0 ≤ (x8_1 : Int) := of_decide_eq_true (by first | (with_reducible assumption) | assumption)
            have q272 : x8_1 < (l0.length : Int) := of_decide_eq_true (by first | (with_reducible assumption) | assumption)
            obtain ⟨ad272, e272, hx272_0, hx272_1, hx272_2⟩ := at_T46 HR0.out x8_1 p272 q272
            cases e272
            replace hx272_0 := (HB.out.cell (World.block_lt_of_cell? w _ hx272_0)).trans hx272_0
            replace hx272_1 := (HB.out.cell (World.block_lt_of_cell? w _ hx272_1)).trans hx272_1
            replace hx272_2 := (HB.out.cell (World.block_lt_of_cell? w _ hx272_2)).trans hx272_2
            replace p272 := eq_true p272
            replace q272 := eq_true q272
            go_wp2_with (first | ((with_reducible refine gate_dst (N := 5) rfl ?_); refine box_event ?hg (N := 5) ?hd (cs := #[.int .i64 0, .string (⟨#[]⟩ : ByteArray), .int .i64 0]) (t := 46) ?hr ?_; (case hd => rfl); (case hg => rfl); (case hr => first | (go_simp; done) | (go_simp; rfl)); intro gb273 hg w21 hbox hb; have n0_ := Aside0.mk (below_step (by repeat (first | (with_reducible first | exact HB.out | apply below_alloc | apply pw_below_drewN | apply below_drew1) | exact HB.out)) hb); have n1_ := Aside0.mk (hbox); have n2_ := Aside0.mk ((by rw [hg]; exact (below_size (by repeat (first | (with_reducible first | exact HB.out | apply below_alloc | apply pw_below_drewN | apply below_drew1) | exact HB.out))) : w.heap.size ≤ gb273)); have n3_ := Aside0.mk ((by rw [hg]; exact (below_size (by repeat (first | (with_reducible first | exact HB.out | apply below_alloc | apply pw_below_drewN | apply below_drew1) | exact HB.out))) : w.heap.size ≤ gb273)); clear HB; have HB := n0_; have BK273 := n1_; have GW273 := n2_; have GE273 := n3_; clear n0_ n1_ n2_ n3_; clear hb hbox hg; have hcz22_0 : w21.cell? ⟨gb273, 0, none⟩ = some (.int .i64 0) := (blk_cell BK273.out 0).trans rfl; have hcz22_1 : w21.cell? ⟨gb273, 1, none⟩ = some (.string (⟨#[]⟩ : ByteArray)) := (blk_cell BK273.out 1).trans rfl; have hcz22_2 : w21.cell? ⟨gb273, 2, none⟩ = some (.int .i64 0) := (blk_cell BK273.out 2).trans rfl; have hfz22_0 := blk_frozen BK273.out 0; have hfz22_1 := blk_frozen BK273.out 1; have hfz22_2 := blk_frozen BK273.out 2))
            go_roundg k1
            case measure => have := HK1.out; omega
            case rel => exact ⟨((x3_1 ++ (⟨#[110, 117, 109, 58]⟩ : ByteArray)) ++ (((rd_T46 l0 x8_1).f1) ++ (⟨#[32]⟩ : ByteArray))), (wrap64 (x8_1 + 1)), (by first | rfl | (simp; done) | (simp [*]; done) | (simp; unfold wrap64; omega)), (by first | rfl | (simp; done) | (simp [*]; done) | (simp; unfold wrap64; omega)), H', ⟨by have := HK1.out; omega⟩, ⟨by repeat (first | (with_reducible first | exact HB.out | apply below_alloc | apply pw_below_drewN | apply below_drew1 | refine below_set ?_ GE273.out) | exact HB.out)⟩⟩
           ·rw [if_neg c20] at H
            exact absurd H (by simp)
          ·rw [if_neg c19] at H
           exact absurd H (by simp)
         ·rw [if_neg c18] at H
          exact absurd H (by simp)
        ·rw [if_neg c17] at H
         have c17b0 : (((rd_T46 l0 x8_1).f0) == 2) = false := beq_eq_false_iff_ne.mpr c17
         have c17b1 : (((rd_T46 l0 x8_1).f0) != 2) = true := bne_iff_ne.mpr c17
         by_cases c23 : ((rd_T46 l0 x8_1).f0) = 3
         ·rw [if_pos c23] at H
          have c23b0 : (((rd_T46 l0 x8_1).f0) == 3) = true := beq_iff_eq.mpr c23
          have c23b1 : (((rd_T46 l0 x8_1).f0) != 3) = false := bne_eq_false_iff_eq.mpr c23
          clear c23
          by_cases c24 : x3_1.size + 4 ≤ 9223372036854775807
          ·rw [if_pos c24] at H
           have c24b0 := eq_true c24
           have c24b1 : decide (x3_1.size + 4 ≤ 9223372036854775807) = true := decide_eq_true c24
           try have c24b2 : (9223372036854775807 < x3_1.size + 4) = False := eq_false (Nat.not_lt.2 c24)
           try (have c24b3 := c24b2; simp only [ByteArray.size_append', ba_size_mk, List.size_toArray, List.length_cons, List.length_nil, Nat.zero_add, Nat.reduceAdd, ByteArray.size_extract, Nat.min_self, Nat.sub_zero] at c24b3)
           by_cases c25 : ((rd_T46 l0 x8_1).f1).size + 1 ≤ 9223372036854775807
           ·rw [if_pos c25] at H
            have c25b0 := eq_true c25
            have c25b1 : decide (((rd_T46 l0 x8_1).f1).size + 1 ≤ 9223372036854775807) = true := decide_eq_true c25
            try have c25b2 : (9223372036854775807 < ((rd_T46 l0 x8_1).f1).size + 1) = False := eq_false (Nat.not_lt.2 c25)
            try (have c25b3 := c25b2; simp only [ByteArray.size_append', ba_size_mk, List.size_toArray, List.length_cons, List.length_nil, Nat.zero_add, Nat.reduceAdd, ByteArray.size_extract, Nat.min_self, Nat.sub_zero] at c25b3)
            by_cases c26 : (x3_1 ++ (⟨#[115, 116, 114, 58]⟩ : ByteArray)).size + (((rd_T46 l0 x8_1).f1) ++ (⟨#[32]⟩ : ByteArray)).size ≤ 9223372036854775807
            ·rw [if_pos c26] at H
             have c26b0 := eq_true c26
             have c26b1 : decide ((x3_1 ++ (⟨#[115, 116, 114, 58]⟩ : ByteArray)).size + (((rd_T46 l0 x8_1).f1) ++ (⟨#[32]⟩ : ByteArray)).size ≤ 9223372036854775807) = true := decide_eq_true c26
             try have c26b2 : (9223372036854775807 < (x3_1 ++ (⟨#[115, 116, 114, 58]⟩ : ByteArray)).size + (((rd_T46 l0 x8_1).f1) ++ (⟨#[32]⟩ : ByteArray)).size) = False := eq_false (Nat.not_lt.2 c26)
             try (have c26b3 := c26b2; simp only [ByteArray.size_append', ba_size_mk, List.size_toArray, List.length_cons, List.length_nil, Nat.zero_add, Nat.reduceAdd, ByteArray.size_extract, Nat.min_self, Nat.sub_zero] at c26b3)
             have H' := Aside0.mk H
             clear H
             have p272 : 0 ≤ (x8_1 : Int) := of_decide_eq_true (by first | (with_reducible assumption) | assumption)
             have q272 : x8_1 < (l0.length : Int) := of_decide_eq_true (by first | (with_reducible assumption) | assumption)
             obtain ⟨ad272, e272, hx272_0, hx272_1, hx272_2⟩ := at_T46 HR0.out x8_1 p272 q272
             cases e272
             replace hx272_0 := (HB.out.cell (World.block_lt_of_cell? w _ hx272_0)).trans hx272_0
             replace hx272_1 := (HB.out.cell (World.block_lt_of_cell? w _ hx272_1)).trans hx272_1
             replace hx272_2 := (HB.out.cell (World.block_lt_of_cell? w _ hx272_2)).trans hx272_2
             replace p272 := eq_true p272
             replace q272 := eq_true q272
             go_wp2_with (first | ((with_reducible refine gate_dst (N := 5) rfl ?_); refine box_event ?hg (N := 5) ?hd (cs := #[.int .i64 0, .string (⟨#[]⟩ : ByteArray), .int .i64 0]) (t := 46) ?hr ?_; (case hd => rfl); (case hg => rfl); (case hr => first | (go_simp; done) | (go_simp; rfl)); intro gb273 hg w27 hbox hb; have n0_ := Aside0.mk (below_step (by repeat (first | (with_reducible first | exact HB.out | apply below_alloc | apply pw_below_drewN | apply below_drew1) | exact HB.out)) hb); have n1_ := Aside0.mk (hbox); have n2_ := Aside0.mk ((by rw [hg]; exact (below_size (by repeat (first | (with_reducible first | exact HB.out | apply below_alloc | apply pw_below_drewN | apply below_drew1) | exact HB.out))) : w.heap.size ≤ gb273)); have n3_ := Aside0.mk ((by rw [hg]; exact (below_size (by repeat (first | (with_reducible first | exact HB.out | apply below_alloc | apply pw_below_drewN | apply below_drew1) | exact HB.out))) : w.heap.size ≤ gb273)); clear HB; have HB := n0_; have BK273 := n1_; have GW273 := n2_; have GE273 := n3_; clear n0_ n1_ n2_ n3_; clear hb hbox hg; have hcz28_0 : w27.cell? ⟨gb273, 0, none⟩ = some (.int .i64 0) := (blk_cell BK273.out 0).trans rfl; have hcz28_1 : w27.cell? ⟨gb273, 1, none⟩ = some (.string (⟨#[]⟩ : ByteArray)) := (blk_cell BK273.out 1).trans rfl; have hcz28_2 : w27.cell? ⟨gb273, 2, none⟩ = some (.int .i64 0) := (blk_cell BK273.out 2).trans rfl; have hfz28_0 := blk_frozen BK273.out 0; have hfz28_1 := blk_frozen BK273.out 1; have hfz28_2 := blk_frozen BK273.out 2))
             go_roundg k1
             case measure => have := HK1.out; omega
             case rel => exact ⟨((x3_1 ++ (⟨#[115, 116, 114, 58]⟩ : ByteArray)) ++ (((rd_T46 l0 x8_1).f1) ++ (⟨#[32]⟩ : ByteArray))), (wrap64 (x8_1 + 1)), (by first | rfl | (simp; done) | (simp [*]; done) | (simp; unfold wrap64; omega)), (by first | rfl | (simp; done) | (simp [*]; done) | (simp; unfold wrap64; omega)), H', ⟨by have := HK1.out; omega⟩, ⟨by repeat (first | (with_reducible first | exact HB.out | apply below_alloc | apply pw_below_drewN | apply below_drew1 | refine below_set ?_ GE273.out) | exact HB.out)⟩⟩
            ·rw [if_neg c26] at H
             exact absurd H (by simp)
           ·rw [if_neg c25] at H
            exact absurd H (by simp)
          ·rw [if_neg c24] at H
           exact absurd H (by simp)
         ·rw [if_neg c23] at H
          have c23b0 : (((rd_T46 l0 x8_1).f0) == 3) = false := beq_eq_false_iff_ne.mpr c23
          have c23b1 : (((rd_T46 l0 x8_1).f0) != 3) = true := bne_iff_ne.mpr c23
          by_cases c29 : ((rd_T46 l0 x8_1).f0) = 4
          ·rw [if_pos c29] at H
           have c29b0 : (((rd_T46 l0 x8_1).f0) == 4) = true := beq_iff_eq.mpr c29
           have c29b1 : (((rd_T46 l0 x8_1).f0) != 4) = false := bne_eq_false_iff_eq.mpr c29
           clear c29
           by_cases c30 : x3_1.size + 3 ≤ 9223372036854775807
           ·rw [if_pos c30] at H
            have c30b0 := eq_true c30
            have c30b1 : decide (x3_1.size + 3 ≤ 9223372036854775807) = true := decide_eq_true c30
            try have c30b2 : (9223372036854775807 < x3_1.size + 3) = False := eq_false (Nat.not_lt.2 c30)
            try (have c30b3 := c30b2; simp only [ByteArray.size_append', ba_size_mk, List.size_toArray, List.length_cons, List.length_nil, Nat.zero_add, Nat.reduceAdd, ByteArray.size_extract, Nat.min_self, Nat.sub_zero] at c30b3)
            by_cases c31 : ((rd_T46 l0 x8_1).f1).size + 1 ≤ 9223372036854775807
            ·rw [if_pos c31] at H
             have c31b0 := eq_true c31
             have c31b1 : decide (((rd_T46 l0 x8_1).f1).size + 1 ≤ 9223372036854775807) = true := decide_eq_true c31
             try have c31b2 : (9223372036854775807 < ((rd_T46 l0 x8_1).f1).size + 1) = False := eq_false (Nat.not_lt.2 c31)
             try (have c31b3 := c31b2; simp only [ByteArray.size_append', ba_size_mk, List.size_toArray, List.length_cons, List.length_nil, Nat.zero_add, Nat.reduceAdd, ByteArray.size_extract, Nat.min_self, Nat.sub_zero] at c31b3)
             by_cases c32 : (x3_1 ++ (⟨#[114, 101, 58]⟩ : ByteArray)).size + (((rd_T46 l0 x8_1).f1) ++ (⟨#[32]⟩ : ByteArray)).size ≤ 9223372036854775807
             ·rw [if_pos c32] at H
              have c32b0 := eq_true c32
              have c32b1 : decide ((x3_1 ++ (⟨#[114, 101, 58]⟩ : ByteArray)).size + (((rd_T46 l0 x8_1).f1) ++ (⟨#[32]⟩ : ByteArray)).size ≤ 9223372036854775807) = true := decide_eq_true c32
              try have c32b2 : (9223372036854775807 < (x3_1 ++ (⟨#[114, 101, 58]⟩ : ByteArray)).size + (((rd_T46 l0 x8_1).f1) ++ (⟨#[32]⟩ : ByteArray)).size) = False := eq_false (Nat.not_lt.2 c32)
              try (have c32b3 := c32b2; simp only [ByteArray.size_append', ba_size_mk, List.size_toArray, List.length_cons, List.length_nil, Nat.zero_add, Nat.reduceAdd, ByteArray.size_extract, Nat.min_self, Nat.sub_zero] at c32b3)
              have H' := Aside0.mk H
              clear H
              have p272 : 0 ≤ (x8_1 : Int) := of_decide_eq_true (by first | (with_reducible assumption) | assumption)
              have q272 : x8_1 < (l0.length : Int) := of_decide_eq_true (by first | (with_reducible assumption) | assumption)
              obtain ⟨ad272, e272, hx272_0, hx272_1, hx272_2⟩ := at_T46 HR0.out x8_1 p272 q272
              cases e272
              replace hx272_0 := (HB.out.cell (World.block_lt_of_cell? w _ hx272_0)).trans hx272_0
              replace hx272_1 := (HB.out.cell (World.block_lt_of_cell? w _ hx272_1)).trans hx272_1
              replace hx272_2 := (HB.out.cell (World.block_lt_of_cell? w _ hx272_2)).trans hx272_2
              replace p272 := eq_true p272
              replace q272 := eq_true q272
              go_wp2_with (first | ((with_reducible refine gate_dst (N := 5) rfl ?_); refine box_event ?hg (N := 5) ?hd (cs := #[.int .i64 0, .string (⟨#[]⟩ : ByteArray), .int .i64 0]) (t := 46) ?hr ?_; (case hd => rfl); (case hg => rfl); (case hr => first | (go_simp; done) | (go_simp; rfl)); intro gb273 hg w33 hbox hb; have n0_ := Aside0.mk (below_step (by repeat (first | (with_reducible first | exact HB.out | apply below_alloc | apply pw_below_drewN | apply below_drew1) | exact HB.out)) hb); have n1_ := Aside0.mk (hbox); have n2_ := Aside0.mk ((by rw [hg]; exact (below_size (by repeat (first | (with_reducible first | exact HB.out | apply below_alloc | apply pw_below_drewN | apply below_drew1) | exact HB.out))) : w.heap.size ≤ gb273)); have n3_ := Aside0.mk ((by rw [hg]; exact (below_size (by repeat (first | (with_reducible first | exact HB.out | apply below_alloc | apply pw_below_drewN | apply below_drew1) | exact HB.out))) : w.heap.size ≤ gb273)); clear HB; have HB := n0_; have BK273 := n1_; have GW273 := n2_; have GE273 := n3_; clear n0_ n1_ n2_ n3_; clear hb hbox hg; have hcz34_0 : w33.cell? ⟨gb273, 0, none⟩ = some (.int .i64 0) := (blk_cell BK273.out 0).trans rfl; have hcz34_1 : w33.cell? ⟨gb273, 1, none⟩ = some (.string (⟨#[]⟩ : ByteArray)) := (blk_cell BK273.out 1).trans rfl; have hcz34_2 : w33.cell? ⟨gb273, 2, none⟩ = some (.int .i64 0) := (blk_cell BK273.out 2).trans rfl; have hfz34_0 := blk_frozen BK273.out 0; have hfz34_1 := blk_frozen BK273.out 1; have hfz34_2 := blk_frozen BK273.out 2))
              go_roundg k1
              case measure => have := HK1.out; omega
              case rel => exact ⟨((x3_1 ++ (⟨#[114, 101, 58]⟩ : ByteArray)) ++ (((rd_T46 l0 x8_1).f1) ++ (⟨#[32]⟩ : ByteArray))), (wrap64 (x8_1 + 1)), (by first | rfl | (simp; done) | (simp [*]; done) | (simp; unfold wrap64; omega)), (by first | rfl | (simp; done) | (simp [*]; done) | (simp; unfold wrap64; omega)), H', ⟨by have := HK1.out; omega⟩, ⟨by repeat (first | (with_reducible first | exact HB.out | apply below_alloc | apply pw_below_drewN | apply below_drew1 | refine below_set ?_ GE273.out) | exact HB.out)⟩⟩
             ·rw [if_neg c32] at H
              exact absurd H (by simp)
            ·rw [if_neg c31] at H
             exact absurd H (by simp)
           ·rw [if_neg c30] at H
            exact absurd H (by simp)
          ·rw [if_neg c29] at H
           have c29b0 : (((rd_T46 l0 x8_1).f0) == 4) = false := beq_eq_false_iff_ne.mpr c29
           have c29b1 : (((rd_T46 l0 x8_1).f0) != 4) = true := bne_iff_ne.mpr c29
           by_cases c35 : ((rd_T46 l0 x8_1).f0) = 5
           ·rw [if_pos c35] at H
            have c35b0 : (((rd_T46 l0 x8_1).f0) == 5) = true := beq_iff_eq.mpr c35
            have c35b1 : (((rd_T46 l0 x8_1).f0) != 5) = false := bne_eq_false_iff_eq.mpr c35
            clear c35
            by_cases c36 : x3_1.size + 5 ≤ 9223372036854775807
            ·rw [if_pos c36] at H
             have c36b0 := eq_true c36
             have c36b1 : decide (x3_1.size + 5 ≤ 9223372036854775807) = true := decide_eq_true c36
             try have c36b2 : (9223372036854775807 < x3_1.size + 5) = False := eq_false (Nat.not_lt.2 c36)
             try (have c36b3 := c36b2; simp only [ByteArray.size_append', ba_size_mk, List.size_toArray, List.length_cons, List.length_nil, Nat.zero_add, Nat.reduceAdd, ByteArray.size_extract, Nat.min_self, Nat.sub_zero] at c36b3)
             by_cases c37 : ((rd_T46 l0 x8_1).f1).size + 1 ≤ 9223372036854775807
             ·rw [if_pos c37] at H
              have c37b0 := eq_true c37
              have c37b1 : decide (((rd_T46 l0 x8_1).f1).size + 1 ≤ 9223372036854775807) = true := decide_eq_true c37
              try have c37b2 : (9223372036854775807 < ((rd_T46 l0 x8_1).f1).size + 1) = False := eq_false (Nat.not_lt.2 c37)
              try (have c37b3 := c37b2; simp only [ByteArray.size_append', ba_size_mk, List.size_toArray, List.length_cons, List.length_nil, Nat.zero_add, Nat.reduceAdd, ByteArray.size_extract, Nat.min_self, Nat.sub_zero] at c37b3)
              by_cases c38 : (x3_1 ++ (⟨#[110, 97, 109, 101, 58]⟩ : ByteArray)).size + (((rd_T46 l0 x8_1).f1) ++ (⟨#[32]⟩ : ByteArray)).size ≤ 9223372036854775807
              ·rw [if_pos c38] at H
               have c38b0 := eq_true c38
               have c38b1 : decide ((x3_1 ++ (⟨#[110, 97, 109, 101, 58]⟩ : ByteArray)).size + (((rd_T46 l0 x8_1).f1) ++ (⟨#[32]⟩ : ByteArray)).size ≤ 9223372036854775807) = true := decide_eq_true c38
               try have c38b2 : (9223372036854775807 < (x3_1 ++ (⟨#[110, 97, 109, 101, 58]⟩ : ByteArray)).size + (((rd_T46 l0 x8_1).f1) ++ (⟨#[32]⟩ : ByteArray)).size) = False := eq_false (Nat.not_lt.2 c38)
               try (have c38b3 := c38b2; simp only [ByteArray.size_append', ba_size_mk, List.size_toArray, List.length_cons, List.length_nil, Nat.zero_add, Nat.reduceAdd, ByteArray.size_extract, Nat.min_self, Nat.sub_zero] at c38b3)
               have H' := Aside0.mk H
               clear H
               have p272 : 0 ≤ (x8_1 : Int) := of_decide_eq_true (by first | (with_reducible assumption) | assumption)
               have q272 : x8_1 < (l0.length : Int) := of_decide_eq_true (by first | (with_reducible assumption) | assumption)
               obtain ⟨ad272, e272, hx272_0, hx272_1, hx272_2⟩ := at_T46 HR0.out x8_1 p272 q272
               cases e272
               replace hx272_0 := (HB.out.cell (World.block_lt_of_cell? w _ hx272_0)).trans hx272_0
               replace hx272_1 := (HB.out.cell (World.block_lt_of_cell? w _ hx272_1)).trans hx272_1
               replace hx272_2 := (HB.out.cell (World.block_lt_of_cell? w _ hx272_2)).trans hx272_2
               replace p272 := eq_true p272
               replace q272 := eq_true q272
               go_wp2_with (first | ((with_reducible refine gate_dst (N := 5) rfl ?_); refine box_event ?hg (N := 5) ?hd (cs := #[.int .i64 0, .string (⟨#[]⟩ : ByteArray), .int .i64 0]) (t := 46) ?hr ?_; (case hd => rfl); (case hg => rfl); (case hr => first | (go_simp; done) | (go_simp; rfl)); intro gb273 hg w39 hbox hb; have n0_ := Aside0.mk (below_step (by repeat (first | (with_reducible first | exact HB.out | apply below_alloc | apply pw_below_drewN | apply below_drew1) | exact HB.out)) hb); have n1_ := Aside0.mk (hbox); have n2_ := Aside0.mk ((by rw [hg]; exact (below_size (by repeat (first | (with_reducible first | exact HB.out | apply below_alloc | apply pw_below_drewN | apply below_drew1) | exact HB.out))) : w.heap.size ≤ gb273)); have n3_ := Aside0.mk ((by rw [hg]; exact (below_size (by repeat (first | (with_reducible first | exact HB.out | apply below_alloc | apply pw_below_drewN | apply below_drew1) | exact HB.out))) : w.heap.size ≤ gb273)); clear HB; have HB := n0_; have BK273 := n1_; have GW273 := n2_; have GE273 := n3_; clear n0_ n1_ n2_ n3_; clear hb hbox hg; have hcz40_0 : w39.cell? ⟨gb273, 0, none⟩ = some (.int .i64 0) := (blk_cell BK273.out 0).trans rfl; have hcz40_1 : w39.cell? ⟨gb273, 1, none⟩ = some (.string (⟨#[]⟩ : ByteArray)) := (blk_cell BK273.out 1).trans rfl; have hcz40_2 : w39.cell? ⟨gb273, 2, none⟩ = some (.int .i64 0) := (blk_cell BK273.out 2).trans rfl; have hfz40_0 := blk_frozen BK273.out 0; have hfz40_1 := blk_frozen BK273.out 1; have hfz40_2 := blk_frozen BK273.out 2))
               go_roundg k1
               case measure => have := HK1.out; omega
               case rel => exact ⟨((x3_1 ++ (⟨#[110, 97, 109, 101, 58]⟩ : ByteArray)) ++ (((rd_T46 l0 x8_1).f1) ++ (⟨#[32]⟩ : ByteArray))), (wrap64 (x8_1 + 1)), (by first | rfl | (simp; done) | (simp [*]; done) | (simp; unfold wrap64; omega)), (by first | rfl | (simp; done) | (simp [*]; done) | (simp; unfold wrap64; omega)), H', ⟨by have := HK1.out; omega⟩, ⟨by repeat (first | (with_reducible first | exact HB.out | apply below_alloc | apply pw_below_drewN | apply below_drew1 | refine below_set ?_ GE273.out) | exact HB.out)⟩⟩
              ·rw [if_neg c38] at H
               exact absurd H (by simp)
             ·rw [if_neg c37] at H
              exact absurd H (by simp)
            ·rw [if_neg c36] at H
             exact absurd H (by simp)
           ·rw [if_neg c35] at H
            have c35b0 : (((rd_T46 l0 x8_1).f0) == 5) = false := beq_eq_false_iff_ne.mpr c35
            have c35b1 : (((rd_T46 l0 x8_1).f0) != 5) = true := bne_iff_ne.mpr c35
            by_cases c41 : ((rd_T46 l0 x8_1).f0) = 6
            ·rw [if_pos c41] at H
             have c41b0 : (((rd_T46 l0 x8_1).f0) == 6) = true := beq_iff_eq.mpr c41
             have c41b1 : (((rd_T46 l0 x8_1).f0) != 6) = false := bne_eq_false_iff_eq.mpr c41
             clear c41
             by_cases c42 : x3_1.size + 5 ≤ 9223372036854775807
             ·rw [if_pos c42] at H
              have c42b0 := eq_true c42
              have c42b1 : decide (x3_1.size + 5 ≤ 9223372036854775807) = true := decide_eq_true c42
              try have c42b2 : (9223372036854775807 < x3_1.size + 5) = False := eq_false (Nat.not_lt.2 c42)
              try (have c42b3 := c42b2; simp only [ByteArray.size_append', ba_size_mk, List.size_toArray, List.length_cons, List.length_nil, Nat.zero_add, Nat.reduceAdd, ByteArray.size_extract, Nat.min_self, Nat.sub_zero] at c42b3)
              by_cases c43 : ((rd_T46 l0 x8_1).f1).size + 1 ≤ 9223372036854775807
              ·rw [if_pos c43] at H
               have c43b0 := eq_true c43
               have c43b1 : decide (((rd_T46 l0 x8_1).f1).size + 1 ≤ 9223372036854775807) = true := decide_eq_true c43
               try have c43b2 : (9223372036854775807 < ((rd_T46 l0 x8_1).f1).size + 1) = False := eq_false (Nat.not_lt.2 c43)
               try (have c43b3 := c43b2; simp only [ByteArray.size_append', ba_size_mk, List.size_toArray, List.length_cons, List.length_nil, Nat.zero_add, Nat.reduceAdd, ByteArray.size_extract, Nat.min_self, Nat.sub_zero] at c43b3)
               by_cases c44 : (x3_1 ++ (⟨#[102, 117, 110, 99, 58]⟩ : ByteArray)).size + (((rd_T46 l0 x8_1).f1) ++ (⟨#[32]⟩ : ByteArray)).size ≤ 9223372036854775807
               ·rw [if_pos c44] at H
                have c44b0 := eq_true c44
                have c44b1 : decide ((x3_1 ++ (⟨#[102, 117, 110, 99, 58]⟩ : ByteArray)).size + (((rd_T46 l0 x8_1).f1) ++ (⟨#[32]⟩ : ByteArray)).size ≤ 9223372036854775807) = true := decide_eq_true c44
                try have c44b2 : (9223372036854775807 < (x3_1 ++ (⟨#[102, 117, 110, 99, 58]⟩ : ByteArray)).size + (((rd_T46 l0 x8_1).f1) ++ (⟨#[32]⟩ : ByteArray)).size) = False := eq_false (Nat.not_lt.2 c44)
                try (have c44b3 := c44b2; simp only [ByteArray.size_append', ba_size_mk, List.size_toArray, List.length_cons, List.length_nil, Nat.zero_add, Nat.reduceAdd, ByteArray.size_extract, Nat.min_self, Nat.sub_zero] at c44b3)
                have H' := Aside0.mk H
                clear H
                have p272 : 0 ≤ (x8_1 : Int) := of_decide_eq_true (by first | (with_reducible assumption) | assumption)
                have q272 : x8_1 < (l0.length : Int) := of_decide_eq_true (by first | (with_reducible assumption) | assumption)
                obtain ⟨ad272, e272, hx272_0, hx272_1, hx272_2⟩ := at_T46 HR0.out x8_1 p272 q272
                cases e272
                replace hx272_0 := (HB.out.cell (World.block_lt_of_cell? w _ hx272_0)).trans hx272_0
                replace hx272_1 := (HB.out.cell (World.block_lt_of_cell? w _ hx272_1)).trans hx272_1
                replace hx272_2 := (HB.out.cell (World.block_lt_of_cell? w _ hx272_2)).trans hx272_2
                replace p272 := eq_true p272
                replace q272 := eq_true q272
                go_wp2_with (first | ((with_reducible refine gate_dst (N := 5) rfl ?_); refine box_event ?hg (N := 5) ?hd (cs := #[.int .i64 0, .string (⟨#[]⟩ : ByteArray), .int .i64 0]) (t := 46) ?hr ?_; (case hd => rfl); (case hg => rfl); (case hr => first | (go_simp; done) | (go_simp; rfl)); intro gb273 hg w45 hbox hb; have n0_ := Aside0.mk (below_step (by repeat (first | (with_reducible first | exact HB.out | apply below_alloc | apply pw_below_drewN | apply below_drew1) | exact HB.out)) hb); have n1_ := Aside0.mk (hbox); have n2_ := Aside0.mk ((by rw [hg]; exact (below_size (by repeat (first | (with_reducible first | exact HB.out | apply below_alloc | apply pw_below_drewN | apply below_drew1) | exact HB.out))) : w.heap.size ≤ gb273)); have n3_ := Aside0.mk ((by rw [hg]; exact (below_size (by repeat (first | (with_reducible first | exact HB.out | apply below_alloc | apply pw_below_drewN | apply below_drew1) | exact HB.out))) : w.heap.size ≤ gb273)); clear HB; have HB := n0_; have BK273 := n1_; have GW273 := n2_; have GE273 := n3_; clear n0_ n1_ n2_ n3_; clear hb hbox hg; have hcz46_0 : w45.cell? ⟨gb273, 0, none⟩ = some (.int .i64 0) := (blk_cell BK273.out 0).trans rfl; have hcz46_1 : w45.cell? ⟨gb273, 1, none⟩ = some (.string (⟨#[]⟩ : ByteArray)) := (blk_cell BK273.out 1).trans rfl; have hcz46_2 : w45.cell? ⟨gb273, 2, none⟩ = some (.int .i64 0) := (blk_cell BK273.out 2).trans rfl; have hfz46_0 := blk_frozen BK273.out 0; have hfz46_1 := blk_frozen BK273.out 1; have hfz46_2 := blk_frozen BK273.out 2))
                go_roundg k1
                case measure => have := HK1.out; omega
                case rel => exact ⟨((x3_1 ++ (⟨#[102, 117, 110, 99, 58]⟩ : ByteArray)) ++ (((rd_T46 l0 x8_1).f1) ++ (⟨#[32]⟩ : ByteArray))), (wrap64 (x8_1 + 1)), (by first | rfl | (simp; done) | (simp [*]; done) | (simp; unfold wrap64; omega)), (by first | rfl | (simp; done) | (simp [*]; done) | (simp; unfold wrap64; omega)), H', ⟨by have := HK1.out; omega⟩, ⟨by repeat (first | (with_reducible first | exact HB.out | apply below_alloc | apply pw_below_drewN | apply below_drew1 | refine below_set ?_ GE273.out) | exact HB.out)⟩⟩
               ·rw [if_neg c44] at H
                exact absurd H (by simp)
              ·rw [if_neg c43] at H
               exact absurd H (by simp)
             ·rw [if_neg c42] at H
              exact absurd H (by simp)
            ·rw [if_neg c41] at H
             have c41b0 : (((rd_T46 l0 x8_1).f0) == 6) = false := beq_eq_false_iff_ne.mpr c41
             have c41b1 : (((rd_T46 l0 x8_1).f0) != 6) = true := bne_iff_ne.mpr c41
             by_cases c47 : ((rd_T46 l0 x8_1).f0) = 7
             ·rw [if_pos c47] at H
              have c47b0 : (((rd_T46 l0 x8_1).f0) == 7) = true := beq_iff_eq.mpr c47
              have c47b1 : (((rd_T46 l0 x8_1).f0) != 7) = false := bne_eq_false_iff_eq.mpr c47
              clear c47
              by_cases c48 : x3_1.size + 5 ≤ 9223372036854775807
              ·rw [if_pos c48] at H
               have c48b0 := eq_true c48
               have c48b1 : decide (x3_1.size + 5 ≤ 9223372036854775807) = true := decide_eq_true c48
               try have c48b2 : (9223372036854775807 < x3_1.size + 5) = False := eq_false (Nat.not_lt.2 c48)
               try (have c48b3 := c48b2; simp only [ByteArray.size_append', ba_size_mk, List.size_toArray, List.length_cons, List.length_nil, Nat.zero_add, Nat.reduceAdd, ByteArray.size_extract, Nat.min_self, Nat.sub_zero] at c48b3)
               by_cases c49 : ((rd_T46 l0 x8_1).f1).size + 1 ≤ 9223372036854775807
               ·rw [if_pos c49] at H
                have c49b0 := eq_true c49
                have c49b1 : decide (((rd_T46 l0 x8_1).f1).size + 1 ≤ 9223372036854775807) = true := decide_eq_true c49
                try have c49b2 : (9223372036854775807 < ((rd_T46 l0 x8_1).f1).size + 1) = False := eq_false (Nat.not_lt.2 c49)
                try (have c49b3 := c49b2; simp only [ByteArray.size_append', ba_size_mk, List.size_toArray, List.length_cons, List.length_nil, Nat.zero_add, Nat.reduceAdd, ByteArray.size_extract, Nat.min_self, Nat.sub_zero] at c49b3)
                by_cases c50 : (x3_1 ++ (⟨#[119, 111, 114, 100, 58]⟩ : ByteArray)).size + (((rd_T46 l0 x8_1).f1) ++ (⟨#[32]⟩ : ByteArray)).size ≤ 9223372036854775807
                ·rw [if_pos c50] at H
                 have c50b0 := eq_true c50
                 have c50b1 : decide ((x3_1 ++ (⟨#[119, 111, 114, 100, 58]⟩ : ByteArray)).size + (((rd_T46 l0 x8_1).f1) ++ (⟨#[32]⟩ : ByteArray)).size ≤ 9223372036854775807) = true := decide_eq_true c50
                 try have c50b2 : (9223372036854775807 < (x3_1 ++ (⟨#[119, 111, 114, 100, 58]⟩ : ByteArray)).size + (((rd_T46 l0 x8_1).f1) ++ (⟨#[32]⟩ : ByteArray)).size) = False := eq_false (Nat.not_lt.2 c50)
                 try (have c50b3 := c50b2; simp only [ByteArray.size_append', ba_size_mk, List.size_toArray, List.length_cons, List.length_nil, Nat.zero_add, Nat.reduceAdd, ByteArray.size_extract, Nat.min_self, Nat.sub_zero] at c50b3)
                 have H' := Aside0.mk H
                 clear H
                 have p272 : 0 ≤ (x8_1 : Int) := of_decide_eq_true (by first | (with_reducible assumption) | assumption)
                 have q272 : x8_1 < (l0.length : Int) := of_decide_eq_true (by first | (with_reducible assumption) | assumption)
                 obtain ⟨ad272, e272, hx272_0, hx272_1, hx272_2⟩ := at_T46 HR0.out x8_1 p272 q272
                 cases e272
                 replace hx272_0 := (HB.out.cell (World.block_lt_of_cell? w _ hx272_0)).trans hx272_0
                 replace hx272_1 := (HB.out.cell (World.block_lt_of_cell? w _ hx272_1)).trans hx272_1
                 replace hx272_2 := (HB.out.cell (World.block_lt_of_cell? w _ hx272_2)).trans hx272_2
                 replace p272 := eq_true p272
                 replace q272 := eq_true q272
                 go_wp2_with (first | ((with_reducible refine gate_dst (N := 5) rfl ?_); refine box_event ?hg (N := 5) ?hd (cs := #[.int .i64 0, .string (⟨#[]⟩ : ByteArray), .int .i64 0]) (t := 46) ?hr ?_; (case hd => rfl); (case hg => rfl); (case hr => first | (go_simp; done) | (go_simp; rfl)); intro gb273 hg w51 hbox hb; have n0_ := Aside0.mk (below_step (by repeat (first | (with_reducible first | exact HB.out | apply below_alloc | apply pw_below_drewN | apply below_drew1) | exact HB.out)) hb); have n1_ := Aside0.mk (hbox); have n2_ := Aside0.mk ((by rw [hg]; exact (below_size (by repeat (first | (with_reducible first | exact HB.out | apply below_alloc | apply pw_below_drewN | apply below_drew1) | exact HB.out))) : w.heap.size ≤ gb273)); have n3_ := Aside0.mk ((by rw [hg]; exact (below_size (by repeat (first | (with_reducible first | exact HB.out | apply below_alloc | apply pw_below_drewN | apply below_drew1) | exact HB.out))) : w.heap.size ≤ gb273)); clear HB; have HB := n0_; have BK273 := n1_; have GW273 := n2_; have GE273 := n3_; clear n0_ n1_ n2_ n3_; clear hb hbox hg; have hcz52_0 : w51.cell? ⟨gb273, 0, none⟩ = some (.int .i64 0) := (blk_cell BK273.out 0).trans rfl; have hcz52_1 : w51.cell? ⟨gb273, 1, none⟩ = some (.string (⟨#[]⟩ : ByteArray)) := (blk_cell BK273.out 1).trans rfl; have hcz52_2 : w51.cell? ⟨gb273, 2, none⟩ = some (.int .i64 0) := (blk_cell BK273.out 2).trans rfl; have hfz52_0 := blk_frozen BK273.out 0; have hfz52_1 := blk_frozen BK273.out 1; have hfz52_2 := blk_frozen BK273.out 2))
                 go_roundg k1
                 case measure => have := HK1.out; omega
                 case rel => exact ⟨((x3_1 ++ (⟨#[119, 111, 114, 100, 58]⟩ : ByteArray)) ++ (((rd_T46 l0 x8_1).f1) ++ (⟨#[32]⟩ : ByteArray))), (wrap64 (x8_1 + 1)), (by first | rfl | (simp; done) | (simp [*]; done) | (simp; unfold wrap64; omega)), (by first | rfl | (simp; done) | (simp [*]; done) | (simp; unfold wrap64; omega)), H', ⟨by have := HK1.out; omega⟩, ⟨by repeat (first | (with_reducible first | exact HB.out | apply below_alloc | apply pw_below_drewN | apply below_drew1 | refine below_set ?_ GE273.out) | exact HB.out)⟩⟩
                ·rw [if_neg c50] at H
                 exact absurd H (by simp)
               ·rw [if_neg c49] at H
                exact absurd H (by simp)
              ·rw [if_neg c48] at H
               exact absurd H (by simp)
             ·rw [if_neg c47] at H
              have c47b0 : (((rd_T46 l0 x8_1).f0) == 7) = false := beq_eq_false_iff_ne.mpr c47
              have c47b1 : (((rd_T46 l0 x8_1).f0) != 7) = true := bne_iff_ne.mpr c47
              by_cases c53 : ((rd_T46 l0 x8_1).f0) = 8
              ·rw [if_pos c53] at H
               have c53b0 : (((rd_T46 l0 x8_1).f0) == 8) = true := beq_iff_eq.mpr c53
               have c53b1 : (((rd_T46 l0 x8_1).f0) != 8) = false := bne_eq_false_iff_eq.mpr c53
               clear c53
               by_cases c54 : x3_1.size + 5 ≤ 9223372036854775807
               ·rw [if_pos c54] at H
                have c54b0 := eq_true c54
                have c54b1 : decide (x3_1.size + 5 ≤ 9223372036854775807) = true := decide_eq_true c54
                try have c54b2 : (9223372036854775807 < x3_1.size + 5) = False := eq_false (Nat.not_lt.2 c54)
                try (have c54b3 := c54b2; simp only [ByteArray.size_append', ba_size_mk, List.size_toArray, List.length_cons, List.length_nil, Nat.zero_add, Nat.reduceAdd, ByteArray.size_extract, Nat.min_self, Nat.sub_zero] at c54b3)
                by_cases c55 : ((rd_T46 l0 x8_1).f1).size + 1 ≤ 9223372036854775807
                ·rw [if_pos c55] at H
                 have c55b0 := eq_true c55
                 have c55b1 : decide (((rd_T46 l0 x8_1).f1).size + 1 ≤ 9223372036854775807) = true := decide_eq_true c55
                 try have c55b2 : (9223372036854775807 < ((rd_T46 l0 x8_1).f1).size + 1) = False := eq_false (Nat.not_lt.2 c55)
                 try (have c55b3 := c55b2; simp only [ByteArray.size_append', ba_size_mk, List.size_toArray, List.length_cons, List.length_nil, Nat.zero_add, Nat.reduceAdd, ByteArray.size_extract, Nat.min_self, Nat.sub_zero] at c55b3)
                 by_cases c56 : (x3_1 ++ (⟨#[115, 105, 103, 110, 58]⟩ : ByteArray)).size + (((rd_T46 l0 x8_1).f1) ++ (⟨#[32]⟩ : ByteArray)).size ≤ 9223372036854775807
                 ·rw [if_pos c56] at H
                  have c56b0 := eq_true c56
                  have c56b1 : decide ((x3_1 ++ (⟨#[115, 105, 103, 110, 58]⟩ : ByteArray)).size + (((rd_T46 l0 x8_1).f1) ++ (⟨#[32]⟩ : ByteArray)).size ≤ 9223372036854775807) = true := decide_eq_true c56
                  try have c56b2 : (9223372036854775807 < (x3_1 ++ (⟨#[115, 105, 103, 110, 58]⟩ : ByteArray)).size + (((rd_T46 l0 x8_1).f1) ++ (⟨#[32]⟩ : ByteArray)).size) = False := eq_false (Nat.not_lt.2 c56)
                  try (have c56b3 := c56b2; simp only [ByteArray.size_append', ba_size_mk, List.size_toArray, List.length_cons, List.length_nil, Nat.zero_add, Nat.reduceAdd, ByteArray.size_extract, Nat.min_self, Nat.sub_zero] at c56b3)
                  have H' := Aside0.mk H
                  clear H
                  have p272 : 0 ≤ (x8_1 : Int) := of_decide_eq_true (by first | (with_reducible assumption) | assumption)
                  have q272 : x8_1 < (l0.length : Int) := of_decide_eq_true (by first | (with_reducible assumption) | assumption)
                  obtain ⟨ad272, e272, hx272_0, hx272_1, hx272_2⟩ := at_T46 HR0.out x8_1 p272 q272
                  cases e272
                  replace hx272_0 := (HB.out.cell (World.block_lt_of_cell? w _ hx272_0)).trans hx272_0
                  replace hx272_1 := (HB.out.cell (World.block_lt_of_cell? w _ hx272_1)).trans hx272_1
                  replace hx272_2 := (HB.out.cell (World.block_lt_of_cell? w _ hx272_2)).trans hx272_2
                  replace p272 := eq_true p272
                  replace q272 := eq_true q272
                  go_wp2_with (first | ((with_reducible refine gate_dst (N := 5) rfl ?_); refine box_event ?hg (N := 5) ?hd (cs := #[.int .i64 0, .string (⟨#[]⟩ : ByteArray), .int .i64 0]) (t := 46) ?hr ?_; (case hd => rfl); (case hg => rfl); (case hr => first | (go_simp; done) | (go_simp; rfl)); intro gb273 hg w57 hbox hb; have n0_ := Aside0.mk (below_step (by repeat (first | (with_reducible first | exact HB.out | apply below_alloc | apply pw_below_drewN | apply below_drew1) | exact HB.out)) hb); have n1_ := Aside0.mk (hbox); have n2_ := Aside0.mk ((by rw [hg]; exact (below_size (by repeat (first | (with_reducible first | exact HB.out | apply below_alloc | apply pw_below_drewN | apply below_drew1) | exact HB.out))) : w.heap.size ≤ gb273)); have n3_ := Aside0.mk ((by rw [hg]; exact (below_size (by repeat (first | (with_reducible first | exact HB.out | apply below_alloc | apply pw_below_drewN | apply below_drew1) | exact HB.out))) : w.heap.size ≤ gb273)); clear HB; have HB := n0_; have BK273 := n1_; have GW273 := n2_; have GE273 := n3_; clear n0_ n1_ n2_ n3_; clear hb hbox hg; have hcz58_0 : w57.cell? ⟨gb273, 0, none⟩ = some (.int .i64 0) := (blk_cell BK273.out 0).trans rfl; have hcz58_1 : w57.cell? ⟨gb273, 1, none⟩ = some (.string (⟨#[]⟩ : ByteArray)) := (blk_cell BK273.out 1).trans rfl; have hcz58_2 : w57.cell? ⟨gb273, 2, none⟩ = some (.int .i64 0) := (blk_cell BK273.out 2).trans rfl; have hfz58_0 := blk_frozen BK273.out 0; have hfz58_1 := blk_frozen BK273.out 1; have hfz58_2 := blk_frozen BK273.out 2))
                  go_roundg k1
                  case measure => have := HK1.out; omega
                  case rel => exact ⟨((x3_1 ++ (⟨#[115, 105, 103, 110, 58]⟩ : ByteArray)) ++ (((rd_T46 l0 x8_1).f1) ++ (⟨#[32]⟩ : ByteArray))), (wrap64 (x8_1 + 1)), (by first | rfl | (simp; done) | (simp [*]; done) | (simp; unfold wrap64; omega)), (by first | rfl | (simp; done) | (simp [*]; done) | (simp; unfold wrap64; omega)), H', ⟨by have := HK1.out; omega⟩, ⟨by repeat (first | (with_reducible first | exact HB.out | apply below_alloc | apply pw_below_drewN | apply below_drew1 | refine below_set ?_ GE273.out) | exact HB.out)⟩⟩
                 ·rw [if_neg c56] at H
                  exact absurd H (by simp)
                ·rw [if_neg c55] at H
                 exact absurd H (by simp)
               ·rw [if_neg c54] at H
                exact absurd H (by simp)
              ·rw [if_neg c53] at H
               have c53b0 : (((rd_T46 l0 x8_1).f0) == 8) = false := beq_eq_false_iff_ne.mpr c53
               have c53b1 : (((rd_T46 l0 x8_1).f0) != 8) = true := bne_iff_ne.mpr c53
               by_cases c59 : ((rd_T46 l0 x8_1).f0) = 9
               ·rw [if_pos c59] at H
                have c59b0 : (((rd_T46 l0 x8_1).f0) == 9) = true := beq_iff_eq.mpr c59
                have c59b1 : (((rd_T46 l0 x8_1).f0) != 9) = false := bne_eq_false_iff_eq.mpr c59
                clear c59
                by_cases c60 : x3_1.size + 8 ≤ 9223372036854775807
                ·rw [if_pos c60] at H
                 have c60b0 := eq_true c60
                 have c60b1 : decide (x3_1.size + 8 ≤ 9223372036854775807) = true := decide_eq_true c60
                 try have c60b2 : (9223372036854775807 < x3_1.size + 8) = False := eq_false (Nat.not_lt.2 c60)
                 try (have c60b3 := c60b2; simp only [ByteArray.size_append', ba_size_mk, List.size_toArray, List.length_cons, List.length_nil, Nat.zero_add, Nat.reduceAdd, ByteArray.size_extract, Nat.min_self, Nat.sub_zero] at c60b3)
                 by_cases c61 : ((rd_T46 l0 x8_1).f1).size + 1 ≤ 9223372036854775807
                 ·rw [if_pos c61] at H
                  have c61b0 := eq_true c61
                  have c61b1 : decide (((rd_T46 l0 x8_1).f1).size + 1 ≤ 9223372036854775807) = true := decide_eq_true c61
                  try have c61b2 : (9223372036854775807 < ((rd_T46 l0 x8_1).f1).size + 1) = False := eq_false (Nat.not_lt.2 c61)
                  try (have c61b3 := c61b2; simp only [ByteArray.size_append', ba_size_mk, List.size_toArray, List.length_cons, List.length_nil, Nat.zero_add, Nat.reduceAdd, ByteArray.size_extract, Nat.min_self, Nat.sub_zero] at c61b3)
                  by_cases c62 : (x3_1 ++ (⟨#[98, 117, 105, 108, 116, 105, 110, 58]⟩ : ByteArray)).size + (((rd_T46 l0 x8_1).f1) ++ (⟨#[32]⟩ : ByteArray)).size ≤ 9223372036854775807
                  ·rw [if_pos c62] at H
                   have c62b0 := eq_true c62
                   have c62b1 : decide ((x3_1 ++ (⟨#[98, 117, 105, 108, 116, 105, 110, 58]⟩ : ByteArray)).size + (((rd_T46 l0 x8_1).f1) ++ (⟨#[32]⟩ : ByteArray)).size ≤ 9223372036854775807) = true := decide_eq_true c62
                   try have c62b2 : (9223372036854775807 < (x3_1 ++ (⟨#[98, 117, 105, 108, 116, 105, 110, 58]⟩ : ByteArray)).size + (((rd_T46 l0 x8_1).f1) ++ (⟨#[32]⟩ : ByteArray)).size) = False := eq_false (Nat.not_lt.2 c62)
                   try (have c62b3 := c62b2; simp only [ByteArray.size_append', ba_size_mk, List.size_toArray, List.length_cons, List.length_nil, Nat.zero_add, Nat.reduceAdd, ByteArray.size_extract, Nat.min_self, Nat.sub_zero] at c62b3)
                   have H' := Aside0.mk H
                   clear H
                   have p272 : 0 ≤ (x8_1 : Int) := of_decide_eq_true (by first | (with_reducible assumption) | assumption)
                   have q272 : x8_1 < (l0.length : Int) := of_decide_eq_true (by first | (with_reducible assumption) | assumption)
                   obtain ⟨ad272, e272, hx272_0, hx272_1, hx272_2⟩ := at_T46 HR0.out x8_1 p272 q272
                   cases e272
                   replace hx272_0 := (HB.out.cell (World.block_lt_of_cell? w _ hx272_0)).trans hx272_0
                   replace hx272_1 := (HB.out.cell (World.block_lt_of_cell? w _ hx272_1)).trans hx272_1
                   replace hx272_2 := (HB.out.cell (World.block_lt_of_cell? w _ hx272_2)).trans hx272_2
                   replace p272 := eq_true p272
                   replace q272 := eq_true q272
                   go_wp2_with (first | ((with_reducible refine gate_dst (N := 5) rfl ?_); refine box_event ?hg (N := 5) ?hd (cs := #[.int .i64 0, .string (⟨#[]⟩ : ByteArray), .int .i64 0]) (t := 46) ?hr ?_; (case hd => rfl); (case hg => rfl); (case hr => first | (go_simp; done) | (go_simp; rfl)); intro gb273 hg w63 hbox hb; have n0_ := Aside0.mk (below_step (by repeat (first | (with_reducible first | exact HB.out | apply below_alloc | apply pw_below_drewN | apply below_drew1) | exact HB.out)) hb); have n1_ := Aside0.mk (hbox); have n2_ := Aside0.mk ((by rw [hg]; exact (below_size (by repeat (first | (with_reducible first | exact HB.out | apply below_alloc | apply pw_below_drewN | apply below_drew1) | exact HB.out))) : w.heap.size ≤ gb273)); have n3_ := Aside0.mk ((by rw [hg]; exact (below_size (by repeat (first | (with_reducible first | exact HB.out | apply below_alloc | apply pw_below_drewN | apply below_drew1) | exact HB.out))) : w.heap.size ≤ gb273)); clear HB; have HB := n0_; have BK273 := n1_; have GW273 := n2_; have GE273 := n3_; clear n0_ n1_ n2_ n3_; clear hb hbox hg; have hcz64_0 : w63.cell? ⟨gb273, 0, none⟩ = some (.int .i64 0) := (blk_cell BK273.out 0).trans rfl; have hcz64_1 : w63.cell? ⟨gb273, 1, none⟩ = some (.string (⟨#[]⟩ : ByteArray)) := (blk_cell BK273.out 1).trans rfl; have hcz64_2 : w63.cell? ⟨gb273, 2, none⟩ = some (.int .i64 0) := (blk_cell BK273.out 2).trans rfl; have hfz64_0 := blk_frozen BK273.out 0; have hfz64_1 := blk_frozen BK273.out 1; have hfz64_2 := blk_frozen BK273.out 2))
                   go_roundg k1
                   case measure => have := HK1.out; omega
                   case rel => exact ⟨((x3_1 ++ (⟨#[98, 117, 105, 108, 116, 105, 110, 58]⟩ : ByteArray)) ++ (((rd_T46 l0 x8_1).f1) ++ (⟨#[32]⟩ : ByteArray))), (wrap64 (x8_1 + 1)), (by first | rfl | (simp; done) | (simp [*]; done) | (simp; unfold wrap64; omega)), (by first | rfl | (simp; done) | (simp [*]; done) | (simp; unfold wrap64; omega)), H', ⟨by have := HK1.out; omega⟩, ⟨by repeat (first | (with_reducible first | exact HB.out | apply below_alloc | apply pw_below_drewN | apply below_drew1 | refine below_set ?_ GE273.out) | exact HB.out)⟩⟩
                  ·rw [if_neg c62] at H
                   exact absurd H (by simp)
                 ·rw [if_neg c61] at H
                  exact absurd H (by simp)
                ·rw [if_neg c60] at H
                 exact absurd H (by simp)
               ·rw [if_neg c59] at H
                have c59b0 : (((rd_T46 l0 x8_1).f0) == 9) = false := beq_eq_false_iff_ne.mpr c59
                have c59b1 : (((rd_T46 l0 x8_1).f0) != 9) = true := bne_iff_ne.mpr c59
                by_cases c65 : ((rd_T46 l0 x8_1).f0) = 10
                ·rw [if_pos c65] at H
                 have c65b0 : (((rd_T46 l0 x8_1).f0) == 10) = true := beq_iff_eq.mpr c65
                 have c65b1 : (((rd_T46 l0 x8_1).f0) != 10) = false := bne_eq_false_iff_eq.mpr c65
                 clear c65
                 by_cases c66 : x3_1.size + 7 ≤ 9223372036854775807
                 ·rw [if_pos c66] at H
                  have c66b0 := eq_true c66
                  have c66b1 : decide (x3_1.size + 7 ≤ 9223372036854775807) = true := decide_eq_true c66
                  try have c66b2 : (9223372036854775807 < x3_1.size + 7) = False := eq_false (Nat.not_lt.2 c66)
                  try (have c66b3 := c66b2; simp only [ByteArray.size_append', ba_size_mk, List.size_toArray, List.length_cons, List.length_nil, Nat.zero_add, Nat.reduceAdd, ByteArray.size_extract, Nat.min_self, Nat.sub_zero] at c66b3)
                  by_cases c67 : ((rd_T46 l0 x8_1).f1).size + 1 ≤ 9223372036854775807
                  ·rw [if_pos c67] at H
                   have c67b0 := eq_true c67
                   have c67b1 : decide (((rd_T46 l0 x8_1).f1).size + 1 ≤ 9223372036854775807) = true := decide_eq_true c67
                   try have c67b2 : (9223372036854775807 < ((rd_T46 l0 x8_1).f1).size + 1) = False := eq_false (Nat.not_lt.2 c67)
                   try (have c67b3 := c67b2; simp only [ByteArray.size_append', ba_size_mk, List.size_toArray, List.length_cons, List.length_nil, Nat.zero_add, Nat.reduceAdd, ByteArray.size_extract, Nat.min_self, Nat.sub_zero] at c67b3)
                   by_cases c68 : (x3_1 ++ (⟨#[98, 97, 110, 110, 101, 100, 58]⟩ : ByteArray)).size + (((rd_T46 l0 x8_1).f1) ++ (⟨#[32]⟩ : ByteArray)).size ≤ 9223372036854775807
                   ·rw [if_pos c68] at H
                    have c68b0 := eq_true c68
                    have c68b1 : decide ((x3_1 ++ (⟨#[98, 97, 110, 110, 101, 100, 58]⟩ : ByteArray)).size + (((rd_T46 l0 x8_1).f1) ++ (⟨#[32]⟩ : ByteArray)).size ≤ 9223372036854775807) = true := decide_eq_true c68
                    try have c68b2 : (9223372036854775807 < (x3_1 ++ (⟨#[98, 97, 110, 110, 101, 100, 58]⟩ : ByteArray)).size + (((rd_T46 l0 x8_1).f1) ++ (⟨#[32]⟩ : ByteArray)).size) = False := eq_false (Nat.not_lt.2 c68)
                    try (have c68b3 := c68b2; simp only [ByteArray.size_append', ba_size_mk, List.size_toArray, List.length_cons, List.length_nil, Nat.zero_add, Nat.reduceAdd, ByteArray.size_extract, Nat.min_self, Nat.sub_zero] at c68b3)
                    have H' := Aside0.mk H
                    clear H
                    have p272 : 0 ≤ (x8_1 : Int) := of_decide_eq_true (by first | (with_reducible assumption) | assumption)
                    have q272 : x8_1 < (l0.length : Int) := of_decide_eq_true (by first | (with_reducible assumption) | assumption)
                    obtain ⟨ad272, e272, hx272_0, hx272_1, hx272_2⟩ := at_T46 HR0.out x8_1 p272 q272
                    cases e272
                    replace hx272_0 := (HB.out.cell (World.block_lt_of_cell? w _ hx272_0)).trans hx272_0
                    replace hx272_1 := (HB.out.cell (World.block_lt_of_cell? w _ hx272_1)).trans hx272_1
                    replace hx272_2 := (HB.out.cell (World.block_lt_of_cell? w _ hx272_2)).trans hx272_2
                    replace p272 := eq_true p272
                    replace q272 := eq_true q272
                    go_wp2_with (first | ((with_reducible refine gate_dst (N := 5) rfl ?_); refine box_event ?hg (N := 5) ?hd (cs := #[.int .i64 0, .string (⟨#[]⟩ : ByteArray), .int .i64 0]) (t := 46) ?hr ?_; (case hd => rfl); (case hg => rfl); (case hr => first | (go_simp; done) | (go_simp; rfl)); intro gb273 hg w69 hbox hb; have n0_ := Aside0.mk (below_step (by repeat (first | (with_reducible first | exact HB.out | apply below_alloc | apply pw_below_drewN | apply below_drew1) | exact HB.out)) hb); have n1_ := Aside0.mk (hbox); have n2_ := Aside0.mk ((by rw [hg]; exact (below_size (by repeat (first | (with_reducible first | exact HB.out | apply below_alloc | apply pw_below_drewN | apply below_drew1) | exact HB.out))) : w.heap.size ≤ gb273)); have n3_ := Aside0.mk ((by rw [hg]; exact (below_size (by repeat (first | (with_reducible first | exact HB.out | apply below_alloc | apply pw_below_drewN | apply below_drew1) | exact HB.out))) : w.heap.size ≤ gb273)); clear HB; have HB := n0_; have BK273 := n1_; have GW273 := n2_; have GE273 := n3_; clear n0_ n1_ n2_ n3_; clear hb hbox hg; have hcz70_0 : w69.cell? ⟨gb273, 0, none⟩ = some (.int .i64 0) := (blk_cell BK273.out 0).trans rfl; have hcz70_1 : w69.cell? ⟨gb273, 1, none⟩ = some (.string (⟨#[]⟩ : ByteArray)) := (blk_cell BK273.out 1).trans rfl; have hcz70_2 : w69.cell? ⟨gb273, 2, none⟩ = some (.int .i64 0) := (blk_cell BK273.out 2).trans rfl; have hfz70_0 := blk_frozen BK273.out 0; have hfz70_1 := blk_frozen BK273.out 1; have hfz70_2 := blk_frozen BK273.out 2))
                    go_roundg k1
                    case measure => have := HK1.out; omega
                    case rel => exact ⟨((x3_1 ++ (⟨#[98, 97, 110, 110, 101, 100, 58]⟩ : ByteArray)) ++ (((rd_T46 l0 x8_1).f1) ++ (⟨#[32]⟩ : ByteArray))), (wrap64 (x8_1 + 1)), (by first | rfl | (simp; done) | (simp [*]; done) | (simp; unfold wrap64; omega)), (by first | rfl | (simp; done) | (simp [*]; done) | (simp; unfold wrap64; omega)), H', ⟨by have := HK1.out; omega⟩, ⟨by repeat (first | (with_reducible first | exact HB.out | apply below_alloc | apply pw_below_drewN | apply below_drew1 | refine below_set ?_ GE273.out) | exact HB.out)⟩⟩
                   ·rw [if_neg c68] at H
                    exact absurd H (by simp)
                  ·rw [if_neg c67] at H
                   exact absurd H (by simp)
                 ·rw [if_neg c66] at H
                  exact absurd H (by simp)
                ·rw [if_neg c65] at H
                 have c65b0 : (((rd_T46 l0 x8_1).f0) == 10) = false := beq_eq_false_iff_ne.mpr c65
                 have c65b1 : (((rd_T46 l0 x8_1).f0) != 10) = true := bne_iff_ne.mpr c65
                 by_cases c71 : ((rd_T46 l0 x8_1).f1).size + 1 ≤ 9223372036854775807
                 ·rw [if_pos c71] at H
                  have c71b0 := eq_true c71
                  have c71b1 : decide (((rd_T46 l0 x8_1).f1).size + 1 ≤ 9223372036854775807) = true := decide_eq_true c71
                  try have c71b2 : (9223372036854775807 < ((rd_T46 l0 x8_1).f1).size + 1) = False := eq_false (Nat.not_lt.2 c71)
                  try (have c71b3 := c71b2; simp only [ByteArray.size_append', ba_size_mk, List.size_toArray, List.length_cons, List.length_nil, Nat.zero_add, Nat.reduceAdd, ByteArray.size_extract, Nat.min_self, Nat.sub_zero] at c71b3)
                  by_cases c72 : x3_1.size + (((rd_T46 l0 x8_1).f1) ++ (⟨#[32]⟩ : ByteArray)).size ≤ 9223372036854775807
                  ·rw [if_pos c72] at H
                   have c72b0 := eq_true c72
                   have c72b1 : decide (x3_1.size + (((rd_T46 l0 x8_1).f1) ++ (⟨#[32]⟩ : ByteArray)).size ≤ 9223372036854775807) = true := decide_eq_true c72
                   try have c72b2 : (9223372036854775807 < x3_1.size + (((rd_T46 l0 x8_1).f1) ++ (⟨#[32]⟩ : ByteArray)).size) = False := eq_false (Nat.not_lt.2 c72)
                   try (have c72b3 := c72b2; simp only [ByteArray.size_append', ba_size_mk, List.size_toArray, List.length_cons, List.length_nil, Nat.zero_add, Nat.reduceAdd, ByteArray.size_extract, Nat.min_self, Nat.sub_zero] at c72b3)
                   have H' := Aside0.mk H
                   clear H
                   have p272 : 0 ≤ (x8_1 : Int) := of_decide_eq_true (by first | (with_reducible assumption) | assumption)
                   have q272 : x8_1 < (l0.length : Int) := of_decide_eq_true (by first | (with_reducible assumption) | assumption)
                   obtain ⟨ad272, e272, hx272_0, hx272_1, hx272_2⟩ := at_T46 HR0.out x8_1 p272 q272
                   cases e272
                   replace hx272_0 := (HB.out.cell (World.block_lt_of_cell? w _ hx272_0)).trans hx272_0
                   replace hx272_1 := (HB.out.cell (World.block_lt_of_cell? w _ hx272_1)).trans hx272_1
                   replace hx272_2 := (HB.out.cell (World.block_lt_of_cell? w _ hx272_2)).trans hx272_2
                   replace p272 := eq_true p272
                   replace q272 := eq_true q272
                   go_wp2_with (first | ((with_reducible refine gate_dst (N := 5) rfl ?_); refine box_event ?hg (N := 5) ?hd (cs := #[.int .i64 0, .string (⟨#[]⟩ : ByteArray), .int .i64 0]) (t := 46) ?hr ?_; (case hd => rfl); (case hg => rfl); (case hr => first | (go_simp; done) | (go_simp; rfl)); intro gb273 hg w73 hbox hb; have n0_ := Aside0.mk (below_step (by repeat (first | (with_reducible first | exact HB.out | apply below_alloc | apply pw_below_drewN | apply below_drew1) | exact HB.out)) hb); have n1_ := Aside0.mk (hbox); have n2_ := Aside0.mk ((by rw [hg]; exact (below_size (by repeat (first | (with_reducible first | exact HB.out | apply below_alloc | apply pw_below_drewN | apply below_drew1) | exact HB.out))) : w.heap.size ≤ gb273)); have n3_ := Aside0.mk ((by rw [hg]; exact (below_size (by repeat (first | (with_reducible first | exact HB.out | apply below_alloc | apply pw_below_drewN | apply below_drew1) | exact HB.out))) : w.heap.size ≤ gb273)); clear HB; have HB := n0_; have BK273 := n1_; have GW273 := n2_; have GE273 := n3_; clear n0_ n1_ n2_ n3_; clear hb hbox hg; have hcz74_0 : w73.cell? ⟨gb273, 0, none⟩ = some (.int .i64 0) := (blk_cell BK273.out 0).trans rfl; have hcz74_1 : w73.cell? ⟨gb273, 1, none⟩ = some (.string (⟨#[]⟩ : ByteArray)) := (blk_cell BK273.out 1).trans rfl; have hcz74_2 : w73.cell? ⟨gb273, 2, none⟩ = some (.int .i64 0) := (blk_cell BK273.out 2).trans rfl; have hfz74_0 := blk_frozen BK273.out 0; have hfz74_1 := blk_frozen BK273.out 1; have hfz74_2 := blk_frozen BK273.out 2))
                   go_roundg k1
                   case measure => have := HK1.out; omega
                   case rel => exact ⟨(x3_1 ++ (((rd_T46 l0 x8_1).f1) ++ (⟨#[32]⟩ : ByteArray))), (wrap64 (x8_1 + 1)), (by first | rfl | (simp; done) | (simp [*]; done) | (simp; unfold wrap64; omega)), (by first | rfl | (simp; done) | (simp [*]; done) | (simp; unfold wrap64; omega)), H', ⟨by have := HK1.out; omega⟩, ⟨by repeat (first | (with_reducible first | exact HB.out | apply below_alloc | apply pw_below_drewN | apply below_drew1 | refine below_set ?_ GE273.out) | exact HB.out)⟩⟩
                  ·rw [if_neg c72] at H
                   exact absurd H (by simp)
                 ·rw [if_neg c71] at H
                  exact absurd H (by simp)
     ·rw [if_neg c4] at H
      exact absurd H (by simp)
    ·rw [if_neg c3] at H
     exact absurd H (by simp)
   ·rw [if_neg c2] at H
    have c2b0 : decide (x8_1 < (l0.length : Int)) = false := decide_eq_false c2
    clear c2
    obtain rfl := Option.some.inj H
    go_wp2
    go_ret
    exact ⟨by first | rfl | (simp [errW_none, errW_some] <;> rfl) | (simp [errW_none, errW_some] <;> first | rfl | exact isEmpty_bne _) | (simp [*, errW_none, errW_some] <;> rfl), by repeat (first | (with_reducible first | exact HB.out | apply below_alloc | apply pw_below_drewN | apply below_drew1) | exact HB.out)⟩

end Go.Proofs.YtpnkcihiliagcaaDoor.Pr
