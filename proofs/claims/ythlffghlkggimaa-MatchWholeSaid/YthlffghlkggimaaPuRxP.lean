/- regex.Parse: a call comes to what regex_Parse.f says. -/
import Derived.Test.YthlffghlkggimaaPuRxS
import Derived.RegionTactic
import Derived.WalkMore
import Derived.StillTailTactics
import Derived.OwnWalk
import Derived.Lib.Hide
import Derived.Test.YthlffghlkggimaaPr9
set_option linter.unusedSimpArgs false
namespace Go.Proofs.Ythlffghlkggimaa.Pr
open Go Go.RowKit Go.Proofs.YthlffghlkggimaaW.PrintWords Go.Proofs.YthlffghlkggimaaW.PrintLast Go.Proofs.YthlffghlkggimaaW.PrintMore
def regex_Parse.f (k : Nat) (a0 : ByteArray) : Option (Int × Int × Int × Int × Int × List S52 × Int × Int) :=
 if (a0.size : Int) > 300 then some (0, 0, 0, 0, 0, [], 0, 12) else (regex_reader_alt.f k a0 0 0 0 0).bind fun t =>
  if t.2.2.2.2.2.2.2.2.2.1 = 0 then some (t.1, t.2.1, t.2.2.1, t.2.2.2.1, t.2.2.2.2.1, t.2.2.2.2.2.1, 0, 0) else some (0, 0, 0, 0, 0, [], t.2.2.2.2.2.2.2.2.2.2, t.2.2.2.2.2.2.2.2.2.1)
theorem regex_Parse.mono : ∀ a0 k, LeO (regex_Parse.f k a0) (regex_Parse.f (k + 1) a0) := by
 intro a0 k
 unfold regex_Parse.f
 repeat' first
 | (with_reducible exact regex_reader_alt.mono _ _ _ _ _ _)
 | (with_reducible exact LeO.refl _)
 | (with_reducible refine LeO.ite ?_ ?_)
 | (with_reducible refine LeO.bind ?_ (fun _ => ?_))
 | exact regex_reader_alt.mono _ _ _ _ _ _
 | exact LeO.none _
 | refine LeO.ite ?_ ?_
 | refine LeO.bind ?_ (fun _ => ?_)
set_option maxHeartbeats 8000000 in
set_option maxRecDepth 100000 in
theorem regex_Parse.calls (k : Nat) (a0 : ByteArray) (r1 : Int) (r2 : Int) (r3 : Int) (r4 : Int) (r5 : Int) (r6 : List S52) (r7 : Int) (r8 : Int) (w : World) (hT : TB w) (h : regex_Parse.f k a0 = some (r1, r2, r3, r4, r5, r6, r7, r8)) :
  Calls Try.prog 20 #[.string a0] w fun e w' => ∃ v5_ : Value, e = .returned (.tuple #[.agg #[.int .i64 r1, .int .u64 r2, .int .u64 r3, .int .u64 r4, .int .u64 r5, v5_], .int .i64 r7, .int .i64 r8]) ∧ Kd.R k52 52 w' w.heap.size (fun _ => True) v5_ r6 ∧ Below w.heap.size w w' := by
 unfold regex_Parse.f at h
 have hu1 := Try.underlying52
 have hu2 := Try.underlying76
 have hu3 := Try.underlying49
 by_cases hs : (a0.size : Int) > 300
 ·rw [if_pos hs] at h
  cases h
  have hs2 : decide (300 < a0.size) = true := decide_eq_true (by omega)
  go_enter Try.func20, Try.ntmps20
  go_wp2
  refine bodyPost_ret (v := .tuple #[.agg #[.int .i64 0, .int .u64 0, .int .u64 0, .int .u64 0, .int .u64 0, .slice none 0 0], .int .i64 0, .int .i64 12]) (by simp [results, Try.results20, go_sem]) rfl ⟨_, rfl, Kd.R_nil _ _ _ _ _, ?_⟩
  exact (Below.refl _ _).alloc (Nat.le_refl _) _
 ·rw [if_neg hs] at h
  obtain ⟨⟨t1, t2, t3, t4, t5, t6, t7, t8, t9, t10, t11⟩, hA, h⟩ := Option.bind_eq_some_iff.mp h
  dsimp only at h
  have hs2 : decide (300 < a0.size) = false := decide_eq_false (by omega)
  have hs3 : decide ((300 : Int) < (a0.size : Int)) = false := decide_eq_false (by omega)
  obtain ⟨W, hW⟩ : ∃ W, W = (w.alloc (.cells #[.int .i64 0, .int .u64 0, .int .u64 0, .int .u64 0, .int .u64 0, .slice none 0 0] 52)).alloc (.cells #[.string a0, .int .i64 0, .int .i64 0, .int .i64 0, .int .i64 0] 76) := ⟨_, rfl⟩
  have hWs : W.heap.size = w.heap.size + 2 := by rw [hW]; simp
  have hg0 : W.heap[w.heap.size + 1]? = some (.cells #[.string a0, .int .i64 0, .int .i64 0, .int .i64 0, .int .i64 0] 76 (0, 0)) := by
   rw [hW]
   have := heap_alloc_new (w.alloc (.cells #[.int .i64 0, .int .u64 0, .int .u64 0, .int .u64 0, .int .u64 0, .slice none 0 0] 52)) (.cells #[.string a0, .int .i64 0, .int .i64 0, .int .i64 0, .int .i64 0] 76)
   simpa using this
  have hb0 : W.heap[w.heap.size]? = some (.cells #[.int .i64 0, .int .u64 0, .int .u64 0, .int .u64 0, .int .u64 0, .slice none 0 0] 52 (0, 0)) := by
   rw [hW]
   have := heap_alloc_new w (.cells #[.int .i64 0, .int .u64 0, .int .u64 0, .int .u64 0, .int .u64 0, .slice none 0 0] 52)
   exact (Below.heap_alloc _ _ _ (by simp)).trans this
  have hBW : Below w.heap.size w W := by rw [hW]; exact ((Below.refl _ _).alloc (Nat.le_refl _) _).alloc (by simp) _
  have HI : IsS76 w W (w.heap.size + 1) a0 0 0 0 0 := ⟨hg0, by omega⟩
  have hcall := regex_reader_alt.calls k (w.heap.size + 1) a0 0 0 0 0 t1 t2 t3 t4 t5 t6 t7 t8 t9 t10 t11 w W HI hBW hT hA
  have HW := Lib.hid hW
  have hne : w.heap.size ≠ w.heap.size + 1 := by omega
  clear hs hW hg0 HI
  by_cases h10 : t10 = 0
  ·rw [if_pos h10] at h
   cases h
   subst h10
   go_enter Try.func20, Try.ntmps20
   go_wp2_with (go_at_call 29; rw [← HW.out]; refine hcall.mono ?_; rintro e w1 ⟨v5, rfl, hR, hI1, hB1, hK1⟩; have hbR : w1.heap[w.heap.size]? = some (.cells #[.int .i64 0, .int .u64 0, .int .u64 0, .int .u64 0, .int .u64 0, .slice none 0 0] 52 (0, 0)) := KeepBut.blk hK1 hb0 hne (by simp); obtain ⟨hg1, hge1⟩ := hI1; obtain ⟨A5, c5, rfl⟩ := Kd.R_slice hR; have c3 : w1.cell? ⟨w.heap.size + 1, 3, none⟩ = some (.int .i64 (0 : Int)) := (blk_cell hg1 3).trans rfl; have c4 : w1.cell? ⟨w.heap.size + 1, 4, none⟩ = some (.int .i64 t11) := (blk_cell hg1 4).trans rfl; have lts := blk_lt hg1; have ltq := blk_lt hbR; have q0 := blk_cell hbR 0; have q1 := blk_cell hbR 1; have q2 := blk_cell hbR 2; have q3 := blk_cell hbR 3; have q4 := blk_cell hbR 4; have q5 := blk_cell hbR 5; have f0 := blk_frozen hbR 0; have f1 := blk_frozen hbR 1; have f2 := blk_frozen hbR 2; have f3 := blk_frozen hbR 3; have f4 := blk_frozen hbR 4; have f5 := blk_frozen hbR 5; simp (config := {implicitDefEqProofs := false}) only [List.size_toArray, List.length_cons, List.length_nil, List.getElem?_toArray, List.getElem?_cons_zero, List.getElem?_cons_succ] at q0 q1 q2 q3 q4 q5 f0 f1 f2 f3 f4 f5; have HR := Lib.hid hR; have HB1 := Lib.hid hB1; have HbR := Lib.hid hbR; have Hg1 := Lib.hid hg1; clear hR hB1 hK1 hbR hg1 hge1)
   refine bodyPost_ret (results_ctt rfl _ _ w.heap.size 52 #[.int .i64 r1, .int .u64 r2, .int .u64 r3, .int .u64 r4, .int .u64 r5, .slice A5 r6.length c5] (0, 0) _ rfl (by refine blk_alloc ?_ _; refine blk_put (cs := #[.int .i64 r1, .int .u64 r2, .int .u64 r3, .int .u64 r4, .int .u64 r5, .slice none 0 0]) ?_ 5 _ rfl; refine blk_put (cs := #[.int .i64 r1, .int .u64 r2, .int .u64 r3, .int .u64 r4, .int .u64 0, .slice none 0 0]) ?_ 4 _ rfl; refine blk_put (cs := #[.int .i64 r1, .int .u64 r2, .int .u64 r3, .int .u64 0, .int .u64 0, .slice none 0 0]) ?_ 3 _ rfl; refine blk_put (cs := #[.int .i64 r1, .int .u64 r2, .int .u64 0, .int .u64 0, .int .u64 0, .slice none 0 0]) ?_ 2 _ rfl; refine blk_put (cs := #[.int .i64 r1, .int .u64 0, .int .u64 0, .int .u64 0, .int .u64 0, .slice none 0 0]) ?_ 1 _ rfl; refine blk_put (cs := #[.int .i64 0, .int .u64 0, .int .u64 0, .int .u64 0, .int .u64 0, .slice none 0 0]) ?_ 0 _ rfl; exact HbR.out) Try.underlying52 rfl (by kernel_rfl)) rfl ⟨_, rfl, ?_, ?_⟩
   ·refine Kd.R_below ?_ ((Below.refl _ _).alloc (Nat.le_refl _) _)
    exact Kd.R_mono (Kd.R_lower (Kd.R_far (Kd.R_far (Kd.R_far (Kd.R_far (Kd.R_far (Kd.R_far (Kd.R_mono (Kd.R_bound HR.out) (fun k hk => (by omega : k ≠ w.heap.size))) (fun k hk => hk) _) (fun k hk => hk) _) (fun k hk => hk) _) (fun k hk => hk) _) (fun k hk => hk) _) (fun k hk => hk) _) (by omega)) (fun _ _ => trivial)
   ·exact (((((((HB1.out.setCell (Nat.le_refl _) _).setCell (Nat.le_refl _) _).setCell (Nat.le_refl _) _).setCell (Nat.le_refl _) _).setCell (Nat.le_refl _) _).setCell (Nat.le_refl _) _).alloc (by simp [World.setCell]; omega) _)
  ·rw [if_neg h10] at h
   cases h
   have h10b : (r8 != 0) = true := by simpa using h10
   have h10c : (r8 == 0) = false := by simpa using h10
   go_enter Try.func20, Try.ntmps20
   go_wp2_with (go_at_call 29; rw [← HW.out]; refine hcall.mono ?_; rintro e w1 ⟨v5, rfl, hR, hI1, hB1, hK1⟩; have hbR : w1.heap[w.heap.size]? = some (.cells #[.int .i64 0, .int .u64 0, .int .u64 0, .int .u64 0, .int .u64 0, .slice none 0 0] 52 (0, 0)) := KeepBut.blk hK1 hb0 hne (by simp); obtain ⟨hg1, hge1⟩ := hI1; obtain ⟨A5, c5, rfl⟩ := Kd.R_slice hR; have c3 : w1.cell? ⟨w.heap.size + 1, 3, none⟩ = some (.int .i64 r8) := (blk_cell hg1 3).trans rfl; have c4 : w1.cell? ⟨w.heap.size + 1, 4, none⟩ = some (.int .i64 r7) := (blk_cell hg1 4).trans rfl; have lts := blk_lt hg1; have ltq := blk_lt hbR; have q0 := blk_cell hbR 0; have q1 := blk_cell hbR 1; have q2 := blk_cell hbR 2; have q3 := blk_cell hbR 3; have q4 := blk_cell hbR 4; have q5 := blk_cell hbR 5; have f0 := blk_frozen hbR 0; have f1 := blk_frozen hbR 1; have f2 := blk_frozen hbR 2; have f3 := blk_frozen hbR 3; have f4 := blk_frozen hbR 4; have f5 := blk_frozen hbR 5; simp (config := {implicitDefEqProofs := false}) only [List.size_toArray, List.length_cons, List.length_nil, List.getElem?_toArray, List.getElem?_cons_zero, List.getElem?_cons_succ] at q0 q1 q2 q3 q4 q5 f0 f1 f2 f3 f4 f5; have HR := Lib.hid hR; have HB1 := Lib.hid hB1; have HbR := Lib.hid hbR; have Hg1 := Lib.hid hg1; clear hR hB1 hK1 hbR hg1 hge1)
   clear h hA hcall hb0 hBW
   go_region
   all_goals go_wp2
   refine bodyPost_ret (results_ctt rfl _ _ w.heap.size 52 #[.int .i64 0, .int .u64 0, .int .u64 0, .int .u64 0, .int .u64 0, .slice none 0 0] (0, 0) _ rfl (by refine blk_drew ?_; refine blk_alloc ?_ _; refine blk_put (cs := #[.int .i64 0, .int .u64 0, .int .u64 0, .int .u64 0, .int .u64 0, .slice none 0 0]) ?_ 5 _ rfl; refine blk_put (cs := #[.int .i64 0, .int .u64 0, .int .u64 0, .int .u64 0, .int .u64 0, .slice none 0 0]) ?_ 4 _ rfl; refine blk_put (cs := #[.int .i64 0, .int .u64 0, .int .u64 0, .int .u64 0, .int .u64 0, .slice none 0 0]) ?_ 3 _ rfl; refine blk_put (cs := #[.int .i64 0, .int .u64 0, .int .u64 0, .int .u64 0, .int .u64 0, .slice none 0 0]) ?_ 2 _ rfl; refine blk_put (cs := #[.int .i64 0, .int .u64 0, .int .u64 0, .int .u64 0, .int .u64 0, .slice none 0 0]) ?_ 1 _ rfl; refine blk_put (cs := #[.int .i64 0, .int .u64 0, .int .u64 0, .int .u64 0, .int .u64 0, .slice none 0 0]) ?_ 0 _ rfl; exact HbR.out) Try.underlying52 rfl (by kernel_rfl)) rfl ⟨_, rfl, Kd.R_nil _ _ _ _ _, ?_⟩
   exact ((((((((HB1.out.setCell (Nat.le_refl _) _).setCell (Nat.le_refl _) _).setCell (Nat.le_refl _) _).setCell (Nat.le_refl _) _).setCell (Nat.le_refl _) _).setCell (Nat.le_refl _) _).alloc (by simp [World.setCell]; omega) _)).drew
end Go.Proofs.Ythlffghlkggimaa.Pr
