/- ast.Size and ast.Depth, walked by hand over ast.All. -/
import Derived.Test.YtgkojnpbgkglgaaDoorPuAsW
set_option linter.unusedVariables false
set_option linter.unusedSimpArgs false
namespace Go.Proofs.YtgkojnpbgkglgaaDoor.Pr
open Go Go.RowKit Go.Shelf Go.Proofs.YtgkojnpbgkglgaaDoorW.PrintWords Go.Proofs.YtgkojnpbgkglgaaDoorW.PrintLast Go.Proofs.YtgkojnpbgkglgaaDoorW.PrintMore
attribute [local go_sem] Oper.semAt_some max2_int

def sizeT (n : ANode) : Nat := (allT 0 n).length
def ast_Size.f (o t : ByteArray) (a : Int) (ks : List ANode) : Option Int := if sizeT ⟨o, t, a, ks⟩ ≤ 1000000000000 then some (sizeT ⟨o, t, a, ks⟩ : Int) else none
def deepL (l : List (Int × ANode)) : Int := l.foldl (fun m x => mx m (x.1 + 1)) 0
def ast_Depth.f (o t : ByteArray) (a : Int) (ks : List ANode) : Option Int := if sizeT ⟨o, t, a, ks⟩ ≤ 1000000000000 then some (deepL (allT 0 ⟨o, t, a, ks⟩)) else none
theorem deepL_snoc (l : List (Int × ANode)) (x : Int × ANode) : deepL (l ++ [x]) = mx (deepL l) (x.1 + 1) := by simp [deepL]
theorem mx_max (a b : Int) : mx a b = max a b := by unfold mx; split <;> omega
theorem cell_box {W : World} {B : Nat} {v : Value} {t : TypeId} (h : W.heap[B]? = some (.cells #[v] t (0, 0))) : W.cell? ⟨B, 0, none⟩ = some v ∧ W.frozen? ⟨B, 0, none⟩ = false := by
  constructor <;> simp [World.cell?, World.frozen?, h]
theorem sizeT_told {G : ANode → Prop} {w : World} {ys : List (AElW G w)} {n : ANode} (h : toldE ys = allT 0 n) : ys.length = sizeT n := by
  have := congrArg List.length h
  simpa [toldE, sizeT] using this

set_option maxRecDepth 100000 in
set_option maxHeartbeats 4000000 in
theorem ast_Size.calls (a0_0 a0_1 : ByteArray) (a0_2 : Int) (A0_3 : Option Addr) (c0_3 : Nat) (l0_3 : List ANode) (r : Int) (w : World) (hr0_3 : Kd.C k26 w A0_3 l0_3.length l0_3) (hc0_3 : l0_3.length ≤ c0_3) (hT : TB w) (h : ast_Size.f a0_0 a0_1 a0_2 l0_3 = some r) :
    Calls Tryd.prog 11 #[.agg #[.string a0_0, .string a0_1, .int .i64 a0_2, .slice A0_3 l0_3.length c0_3]] w fun e w' => e = .returned (.int .i64 r) ∧ Below w.heap.size w w' := by
  unfold ast_Size.f at h
  split at h
  case isFalse => cases h
  rename_i hsz
  have hr := Option.some.inj h
  clear h hT
  refine (callsIn_wide (n := 9)).1 ?_
  refine callsIn_of_wp_marks Tryd.func11 rfl trivial ?_ rfl
  simp only [Tryd.ntmps11, List.size_toArray, List.length_cons, List.length_nil, Nat.reduceAdd, Nat.reduceSub, Array.replicate_succ, Array.replicate_zero, List.push_toArray, List.append_toArray, List.nil_append, List.cons_append]
  gi_wp2_with (refine ⟨trivial, ?_⟩; gi_at_call 10; refine (ast_All_in Fence.wide _ trivial rfl _ _ _ _ _ _ _).mono ?_; rintro e w' ⟨rfl, rfl⟩)
  obtain ⟨x, hx⟩ : ∃ x : AElW (fun _ => True) w, x = ⟨⟨0, ⟨a0_0, a0_1, a0_2, l0_3⟩, A0_3, c0_3⟩, ⟨hc0_3, hr0_3, by simp, by simp⟩, trivial⟩ := ⟨_, rfl⟩
  obtain ⟨Wl, hWl⟩ : ∃ Wl, ((w.alloc (.cells #[.string a0_0, .string a0_1, .int .i64 a0_2, .slice A0_3 l0_3.length c0_3] 26)).alloc (.cells #[.int .i64 0] 3)).alloc (.cells #[.string a0_0, .string a0_1, .int .i64 a0_2, .slice A0_3 l0_3.length c0_3] 26) = Wl := ⟨_, rfl⟩
  have hsz1 : Wl.heap.size = w.heap.size + 3 := by rw [← hWl]; simp
  have hbel : Below w.heap.size w Wl := by rw [← hWl]; exact (((Below.refl _ _).alloc (Nat.le_refl _) _).alloc (by simp) _).alloc (by simp; omega) _
  have hbx : Wl.heap[w.heap.size + 1]? = some (.cells #[.int .i64 0] 3 (0, 0)) := by
    rw [← hWl]
    refine (heap_alloc_old _ _ _ (by simp)).trans ?_
    have := heap_alloc_new (w.alloc (.cells #[.string a0_0, .string a0_1, .int .i64 a0_2, .slice A0_3 l0_3.length c0_3] 26)) (.cells #[.int .i64 0] 3)
    rwa [World.size_alloc] at this
  have hbn : Wl.heap[w.heap.size + 2]? = some (.cells #[.string a0_0, .string a0_1, .int .i64 a0_2, .slice A0_3 l0_3.length c0_3] 26 (0, 0)) := by
    rw [← hWl]
    have := heap_alloc_new ((w.alloc (.cells #[.string a0_0, .string a0_1, .int .i64 a0_2, .slice A0_3 l0_3.length c0_3] 26)).alloc (.cells #[.int .i64 0] 3)) (.cells #[.string a0_0, .string a0_1, .int .i64 a0_2, .slice A0_3 l0_3.length c0_3] 26)
    rwa [World.size_alloc, World.size_alloc] at this
  rw [hWl]
  clear hWl
  have hstop := all_stops (fun _ => True) (fun _ _ _ _ => trivial) Fence.wide rfl 8 trivial trivial rfl (w.heap.size + 2) w Wl (fun k => k = w.heap.size + 1) (by rintro k rfl; omega) hbel x (by rw [hx]) (by rw [hx]; exact hsz) (by omega) (by rw [hx]; exact hbn)
  have hxn : allT 0 x.1.n = allT 0 ⟨a0_0, a0_1, a0_2, l0_3⟩ := by rw [hx]
  rw [hxn] at hstop
  refine wpIn_rangeFunc_ownF rfl (by omega) (gf := 23) (lb := #[.pointer (some ⟨w.heap.size + 2, 0, none⟩)]) rfl trivial (enters_of Tryd.func23 (by kernel_rfl) rfl)
    hstop (fun h k => h.trans k) (KpM.book (by omega)) (Below.refl _ _) (fun _ => rfl)
    (fun pre W => (W.cell? ⟨w.heap.size + 1, 0, none⟩ = some (.int .i64 (pre.length : Int)) ∧ W.frozen? ⟨w.heap.size + 1, 0, none⟩ = false) ∧ Below w.heap.size w W)
    (fun _ _ _ => False)
    (OwnFrom.and (Own.from (fun s A B row hs hg hr => ⟨cell_kept hs.1 hg hr, (frozen_kept hs.1 hg hr).trans hs.2⟩) _) (ownFrom_below (Nat.le_refl _) (by omega)))
    (fun _ _ _ _ _ hs _ _ => hs)
    ⟨cell_box hbx, hbel⟩
    (fun y => { tmps := #[.agg #[.string a0_0, .string a0_1, .int .i64 a0_2, .slice A0_3 l0_3.length c0_3], .pointer (some ⟨w.heap.size, 0, none⟩), .int .i64 0, .pointer (some ⟨w.heap.size + 1, 0, none⟩), .agg #[.string a0_0, .string a0_1, .int .i64 a0_2, .slice A0_3 l0_3.length c0_3], .func (.func 23) #[] #[.pointer (some ⟨w.heap.size + 2, 0, none⟩)], .int .i64 y.1.d, y.1.val, undef, undef, undef], defers := [] }) ?assign ?body ?done ?stop
  case assign =>
    intro l y W K hK
    gi_wp2
    simpa [AElW.enc] using hK
  case body =>
    rintro l pre y W ⟨⟨hc, hf⟩, hB⟩ hl
    have hl' : (pre.length : Int) < 1000000000000 := by have : pre.length < (allT 0 ⟨a0_0, a0_1, a0_2, l0_3⟩).length := hl; unfold sizeT at hsz; omega
    have hlW := World.block_lt_of_cell? _ _ hc
    gi_wp2
    refine ⟨KeepsOthers.setCell _ _ _, KpM.set (M := fun k => k = w.heap.size + 1) (p := ⟨w.heap.size + 1, 0, none⟩) (Nat.le_succ _) rfl _, ⟨?_, by rw [World.frozen?_setCell]; exact hf⟩, hB.setCell (p := ⟨w.heap.size + 1, 0, none⟩) (Nat.le_succ _) _⟩
    rw [show ((pre ++ [y]).length : Int) = (pre.length : Int) + 1 by simp]
    exact World.cell?_setCell_same' _ _ _ (by rw [hc]; rfl)
  case done =>
    rintro D ys W hD hys ⟨⟨hc, hf⟩, hB⟩ hK
    have hl := sizeT_told hys
    rw [hl, hr] at hc
    gi_wp2
    refine ⟨by simp, .inl ⟨_, _, rfl, run_takeDeferred hK, ?_⟩⟩
    refine ⟨_, results_tmp rfl _ _ _, rfl, hB.trans (belowK_b (w := w) (Nat.le_refl _) W D _ _ (by omega) hK rfl rfl)⟩
  case stop =>
    rintro D c pre W _ _ h _
    exact h.elim
set_option maxRecDepth 100000 in
set_option maxHeartbeats 4000000 in
theorem ast_Depth.calls (a0_0 a0_1 : ByteArray) (a0_2 : Int) (A0_3 : Option Addr) (c0_3 : Nat) (l0_3 : List ANode) (r : Int) (w : World) (hr0_3 : Kd.C k26 w A0_3 l0_3.length l0_3) (hc0_3 : l0_3.length ≤ c0_3) (hT : TB w) (h : ast_Depth.f a0_0 a0_1 a0_2 l0_3 = some r) :
    Calls Tryd.prog 12 #[.agg #[.string a0_0, .string a0_1, .int .i64 a0_2, .slice A0_3 l0_3.length c0_3]] w fun e w' => e = .returned (.int .i64 r) ∧ Below w.heap.size w w' := by
  unfold ast_Depth.f at h
  split at h
  case isFalse => cases h
  rename_i hsz
  have hr := Option.some.inj h
  clear h hT
  refine (callsIn_wide (n := 9)).1 ?_
  refine callsIn_of_wp_marks Tryd.func12 rfl trivial ?_ rfl
  simp only [Tryd.ntmps12, List.size_toArray, List.length_cons, List.length_nil, Nat.reduceAdd, Nat.reduceSub, Array.replicate_succ, Array.replicate_zero, List.push_toArray, List.append_toArray, List.nil_append, List.cons_append]
  gi_wp2_with (refine ⟨trivial, ?_⟩; gi_at_call 10; refine (ast_All_in Fence.wide _ trivial rfl _ _ _ _ _ _ _).mono ?_; rintro e w' ⟨rfl, rfl⟩)
  obtain ⟨x, hx⟩ : ∃ x : AElW (fun _ => True) w, x = ⟨⟨0, ⟨a0_0, a0_1, a0_2, l0_3⟩, A0_3, c0_3⟩, ⟨hc0_3, hr0_3, by simp, by simp⟩, trivial⟩ := ⟨_, rfl⟩
  obtain ⟨Wl, hWl⟩ : ∃ Wl, ((w.alloc (.cells #[.string a0_0, .string a0_1, .int .i64 a0_2, .slice A0_3 l0_3.length c0_3] 26)).alloc (.cells #[.int .i64 0] 3)).alloc (.cells #[.string a0_0, .string a0_1, .int .i64 a0_2, .slice A0_3 l0_3.length c0_3] 26) = Wl := ⟨_, rfl⟩
  have hsz1 : Wl.heap.size = w.heap.size + 3 := by rw [← hWl]; simp
  have hbel : Below w.heap.size w Wl := by rw [← hWl]; exact (((Below.refl _ _).alloc (Nat.le_refl _) _).alloc (by simp) _).alloc (by simp; omega) _
  have hbx : Wl.heap[w.heap.size + 1]? = some (.cells #[.int .i64 0] 3 (0, 0)) := by
    rw [← hWl]
    refine (heap_alloc_old _ _ _ (by simp)).trans ?_
    have := heap_alloc_new (w.alloc (.cells #[.string a0_0, .string a0_1, .int .i64 a0_2, .slice A0_3 l0_3.length c0_3] 26)) (.cells #[.int .i64 0] 3)
    rwa [World.size_alloc] at this
  have hbn : Wl.heap[w.heap.size + 2]? = some (.cells #[.string a0_0, .string a0_1, .int .i64 a0_2, .slice A0_3 l0_3.length c0_3] 26 (0, 0)) := by
    rw [← hWl]
    have := heap_alloc_new ((w.alloc (.cells #[.string a0_0, .string a0_1, .int .i64 a0_2, .slice A0_3 l0_3.length c0_3] 26)).alloc (.cells #[.int .i64 0] 3)) (.cells #[.string a0_0, .string a0_1, .int .i64 a0_2, .slice A0_3 l0_3.length c0_3] 26)
    rwa [World.size_alloc, World.size_alloc] at this
  rw [hWl]
  clear hWl
  have hstop := all_stops (fun _ => True) (fun _ _ _ _ => trivial) Fence.wide rfl 8 trivial trivial rfl (w.heap.size + 2) w Wl (fun k => k = w.heap.size + 1) (by rintro k rfl; omega) hbel x (by rw [hx]) (by rw [hx]; exact hsz) (by omega) (by rw [hx]; exact hbn)
  have hxn : allT 0 x.1.n = allT 0 ⟨a0_0, a0_1, a0_2, l0_3⟩ := by rw [hx]
  rw [hxn] at hstop
  refine wpIn_rangeFunc_ownF rfl (by omega) (gf := 23) (lb := #[.pointer (some ⟨w.heap.size + 2, 0, none⟩)]) rfl trivial (enters_of Tryd.func23 (by kernel_rfl) rfl)
    hstop (fun h k => h.trans k) (KpM.book (by omega)) (Below.refl _ _) (fun _ => rfl)
    (fun pre W => (W.cell? ⟨w.heap.size + 1, 0, none⟩ = some (.int .i64 (deepL (toldE pre))) ∧ W.frozen? ⟨w.heap.size + 1, 0, none⟩ = false) ∧ Below w.heap.size w W)
    (fun _ _ _ => False)
    (OwnFrom.and (Own.from (fun s A B row hs hg hr => ⟨cell_kept hs.1 hg hr, (frozen_kept hs.1 hg hr).trans hs.2⟩) _) (ownFrom_below (Nat.le_refl _) (by omega)))
    (fun _ _ _ _ _ hs _ _ => hs)
    ⟨cell_box hbx, hbel⟩
    (fun y => { tmps := #[.agg #[.string a0_0, .string a0_1, .int .i64 a0_2, .slice A0_3 l0_3.length c0_3], .pointer (some ⟨w.heap.size, 0, none⟩), .int .i64 0, .pointer (some ⟨w.heap.size + 1, 0, none⟩), .int .i64 y.1.d, .agg #[.string a0_0, .string a0_1, .int .i64 a0_2, .slice A0_3 l0_3.length c0_3], .func (.func 23) #[] #[.pointer (some ⟨w.heap.size + 2, 0, none⟩)], .int .i64 y.1.d, y.1.val, undef, undef, undef, undef, undef], defers := [] }) ?assign ?body ?done ?stop
  case assign =>
    intro l y W K hK
    gi_wp2
    simpa [AElW.enc] using hK
  case body =>
    rintro l pre y W ⟨⟨hc, hf⟩, hB⟩ hl
    obtain ⟨⟨_, _, hd0, hd1⟩, _⟩ := y.2
    have hlW := World.block_lt_of_cell? _ _ hc
    gi_wp2
    refine ⟨KeepsOthers.setCell _ _ _, KpM.set (M := fun k => k = w.heap.size + 1) (p := ⟨w.heap.size + 1, 0, none⟩) (Nat.le_succ _) rfl _, ⟨?_, by rw [World.frozen?_setCell]; exact hf⟩, hB.setCell (p := ⟨w.heap.size + 1, 0, none⟩) (Nat.le_succ _) _⟩
    rw [toldE_app, show toldE [y] = [(y.1.d, y.1.n)] from rfl, deepL_snoc, mx_max]
    exact World.cell?_setCell_same' _ _ _ (by rw [hc]; rfl)
  case done =>
    rintro D ys W hD hys ⟨⟨hc, hf⟩, hB⟩ hK
    rw [hys, hr] at hc
    gi_wp2
    refine ⟨by simp, .inl ⟨_, _, rfl, run_takeDeferred hK, ?_⟩⟩
    refine ⟨_, results_tmp rfl _ _ _, rfl, hB.trans (belowK_b (w := w) (Nat.le_refl _) W D _ _ (by omega) hK rfl rfl)⟩
  case stop =>
    rintro D c pre W _ _ h _
    exact h.elim
end Go.Proofs.YtgkojnpbgkglgaaDoor.Pr
