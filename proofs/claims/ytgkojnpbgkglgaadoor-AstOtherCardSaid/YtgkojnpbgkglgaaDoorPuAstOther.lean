/- AstOther: a tree with one text changed is another one: the law, walked by hand. -/
import Derived.Test.YtgkojnpbgkglgaaDoorPuAstLeft
set_option linter.unusedVariables false
set_option linter.unusedSimpArgs false
namespace Go.Proofs.YtgkojnpbgkglgaaDoor.Pr
open Go Go.RowKit Go.Proofs.YtgkojnpbgkglgaaDoorW.PrintWords Go.Proofs.YtgkojnpbgkglgaaDoorW.PrintLast Go.Proofs.YtgkojnpbgkglgaaDoorW.PrintMore

mutual
theorem same_self : ∀ n : ANode, sameT n n = true
  | ⟨o, t, a, ks⟩ => by rw [sameT, same_selfs ks]; simp
theorem same_selfs : ∀ l : List ANode, sameL l l = true
  | [] => by rw [sameL]
  | k :: r => by rw [sameL, same_self k, same_selfs r]; rfl
end
theorem kids_le (n : ANode) : n.f3.length ≤ sizeT n := by
  have := allKs_len 1 n.f3
  rw [sizeT, allT_eq, List.length_cons]
  simp only [Int.zero_add] at *
  omega
theorem same_more (n x : ANode) : sameT n ⟨n.f0, n.f1, n.f2, n.f3 ++ [x]⟩ = false := by
  obtain ⟨o, t, a, ks⟩ := n
  rw [sameT, sameL_len _ _ (by simp)]
  simp
theorem same_more_calls (n : ANode) (x : ANode) (A : Option Addr) (c : Nat) (A' : Option Addr) (c' : Nat) (w : World) (h1 : Kd.C k26 w A n.f3.length n.f3) (h2 : n.f3.length ≤ c) (k1 : Kd.C k26 w A' (n.f3 ++ [x]).length (n.f3 ++ [x])) (k2 : n.f3.length + 1 ≤ c') (hT : TB w) :
    Calls Tryd.prog 15 #[.agg #[.string n.f0, .string n.f1, .int .i64 n.f2, .slice A n.f3.length c], .agg #[.string n.f0, .string n.f1, .int .i64 n.f2, .slice A' (n.f3.length + 1) c']] w fun e w' => e = .returned (.bool false) ∧ Below w.heap.size w w' := by
  have hl : (n.f3 ++ [x]).length = n.f3.length + 1 := by rw [List.length_append, List.length_singleton]
  have h := ast_Same.calls n.f0 n.f1 n.f2 A c n.f3 n.f0 n.f1 n.f2 A' c' (n.f3 ++ [x]) false w h1 h2 k1 (by rw [hl]; exact k2) hT ((same_ev n (⟨n.f0, n.f1, n.f2, n.f3 ++ [x]⟩ : ANode)).trans (by rw [same_more]))
  rw [hl] at h
  exact h
theorem heap_node : Kd.Heap k26 := Kd.heap_fix (fun d hd => Kd.heap_iso _ (Kd.heap_pair Kd.heap_string (Kd.heap_pair Kd.heap_string (Kd.heap_pair (Kd.heap_int _) (Kd.heap_slice _ hd)))))
/-- a node's kids, as what is read through a frame -/
theorem frame_at {X W : World} {A : Option Addr} {l : List ANode} (h : Kd.C k26 X A l.length l) (hb : Below X.heap.size X W) : Kd.F k26 W (fun k => k < X.heap.size) A l.length l := fun W' hW =>
  heap_node.C (fun k hk => (hW k hk (Nat.lt_of_lt_of_le hk hb.size)).trans (hb.block k hk)) h
/-- two lists of parts that differ in one text alone -/
structure Diff1 (l l' : List APart) (p : Nat) : Prop where
  len : l.length = l'.length
  op : ∀ i, (rdP l i).f0 = (rdP l' i).f0
  tx : ∀ i, i ≠ p → (rdP l i).f1 = (rdP l' i).f1
  up : ∀ i, (rdP l i).f3 = (rdP l' i).f3
theorem Diff1.upZ {l l' : List APart} {p : Nat} (h : Diff1 l l' p) (i : Nat) : upZ l i = upZ l' i := by unfold Pr.upZ; rw [h.up]
theorem Diff1.below {l l' : List APart} {p : Nat} (h : Diff1 l l' p) (i j : Nat) : below l i j = below l' i j := by
  unfold Pr.below
  rw [h.len]
  congr 1
  funext k
  rw [h.upZ]
theorem sameL_maps {f g : Nat → ANode} : ∀ (ks : List Nat), sameL (ks.map f) (ks.map g) = ks.all fun k => sameT (f k) (g k)
  | [] => by simp [sameL]
  | k :: r => by rw [List.map_cons, List.map_cons, sameL, sameL_maps r, List.all_cons]
theorem grow_sameT {l l' : List APart} {p : Nat} (h : Diff1 l l' p) (d i : Nat) : sameT (growF l (d + 1) i) (growF l' (d + 1) i) = ((bL (cutB (rdP l i).f1 20) == bL (cutB (rdP l' i).f1 20)) && (below l i (i + 1)).all fun k => sameT (growF l d k) (growF l' d k)) := by
  rw [growF, growF, sameT, h.op, ← h.below, sameL_maps, bL_toList, bL_toList, bL_toList]
  simp
/-- the same text: the same trees -/
theorem grow_eq {l l' : List APart} {p : Nat} (h : Diff1 l l' p) (hp : bL (cutB (rdP l p).f1 20) = bL (cutB (rdP l' p).f1 20)) (d : Nat) : ∀ i, sameT (growF l d i) (growF l' d i) = true := by
  induction d with
  | zero => intro i; exact same_self _
  | succ d ih =>
    intro i
    rw [grow_sameT h]
    simp only [Bool.and_eq_true, beq_iff_eq, List.all_eq_true]
    refine ⟨?_, fun k _ => ih k⟩
    by_cases hi : i = p
    · rw [hi, hp]
    · rw [h.tx i hi]
theorem upZ_range (l : List APart) (i : Nat) (hi : 0 < i) (hb : i ≤ 1000000) : ∃ q : Nat, upZ l i = (q : Int) ∧ q < i := by
  have h1 : (Int.tmod (rdP l i).f3 i) < i := Int.tmod_lt_of_pos _ (by omega)
  have h2 : -(i : Int) < (Int.tmod (rdP l i).f3 i) := by
    have := Int.tmod_lt_of_pos (-(rdP l i).f3) (show (0 : Int) < i by omega)
    rw [Int.neg_tmod] at this
    omega
  unfold upZ
  rw [if_neg (by omega)]
  split
  · rw [w64 (by omega) (by omega)]
    exact ⟨(-(Int.tmod (rdP l i).f3 i)).toNat, by omega, by omega⟩
  · exact ⟨(Int.tmod (rdP l i).f3 i).toNat, by omega, by omega⟩
theorem below_mem (l : List APart) (i j k : Nat) (h1 : j ≤ k) (h2 : k < l.length) (h3 : upZ l k = (i : Int)) : k ∈ below l i j := by
  unfold below
  rw [List.mem_filter]
  exact ⟨by rw [List.mem_range'_1]; omega, by simpa using h3⟩
/-- another text: other trees, wherever that part is met -/
theorem grow_ne {l l' : List APart} {p : Nat} (h : Diff1 l l' p) (hl : l.length ≤ 1000000) (hp : p < l.length) (hne : bL (cutB (rdP l p).f1 20) ≠ bL (cutB (rdP l' p).f1 20)) : sameT (growF l l.length 0) (growF l' l.length 0) = false := by
  have key : ∀ k, k < l.length → (∀ d, l.length - k ≤ d → sameT (growF l d k) (growF l' d k) = false) → ∀ d, l.length ≤ d → sameT (growF l d 0) (growF l' d 0) = false := by
    intro k
    induction k using Nat.strongRecOn with
    | _ k ih =>
      intro hk hf
      by_cases h0 : k = 0
      · subst h0; exact fun d hd => hf d (by omega)
      · obtain ⟨q, hq, hqk⟩ := upZ_range l k (by omega) (by omega)
        refine ih q hqk (by omega) (fun d hd => ?_)
        obtain ⟨e, rfl⟩ : ∃ e, d = e + 1 := ⟨d - 1, by omega⟩
        rw [grow_sameT h]
        have hm : k ∈ below l q (q + 1) := below_mem l q (q + 1) k (by omega) hk hq
        have : ((below l q (q + 1)).all fun k => sameT (growF l e k) (growF l' e k)) = false := by
          rw [List.all_eq_false]
          exact ⟨k, hm, by rw [hf e (by omega)]; simp⟩
        rw [this, Bool.and_false]
  refine key p hp (fun d hd => ?_) l.length (Nat.le_refl _)
  obtain ⟨e, rfl⟩ : ∃ e, d = e + 1 := ⟨d - 1, by omega⟩
  rw [grow_sameT h, beq_eq_false_iff_ne.2 hne, Bool.false_and]
theorem rdP_get (l : List APart) (i : Nat) : rdP l i = l.getD i z42 := by unfold rdP rd_T42; rw [Int.toNat_natCast]
theorem other_same (l0 l1 : List APart) (at_ : Int) (tx : ByteArray) (h0 : 0 ≤ at_) (h1 : at_ < (l0.length : Int)) (h2 : at_ < 30) (h3 : tx.size ≤ 15) (hl : l1 = l0.set at_.toNat (⟨(rd_T42 l0 at_).f0, tx, (rd_T42 l0 at_).f2, (rd_T42 l0 at_).f3⟩ : APart)) :
    (sameT (treeP l0) (treeP l1) == ((cutB (rd_T42 l0 at_).f1 20).toList == tx.toList)) = true := by
  obtain ⟨p, rfl⟩ := Int.eq_ofNat_of_zero_le h0
  have hp : p < l0.length := by omega
  rw [Int.toNat_natCast] at hl
  have hpx : rd_T42 l0 (p : Int) = rdP l0 p := rfl
  rw [hpx] at hl ⊢
  have ht1 : l1.take 30 = (l0.take 30).set p ⟨(rdP l0 p).f0, tx, (rdP l0 p).f2, (rdP l0 p).f3⟩ := by rw [hl, List.take_set]
  have hlt : (l0.take 30).length = min 30 l0.length := List.length_take
  have hpt : p < (l0.take 30).length := by omega
  have e0 : ∀ i, i < 30 → rdP (l0.take 30) i = rdP l0 i := by
    intro i hi
    rw [rdP_get, rdP_get, List.getD_eq_getElem?_getD, List.getD_eq_getElem?_getD, List.getElem?_take_of_lt hi]
  have e1 : ∀ i, i ≠ p → rdP (l1.take 30) i = rdP (l0.take 30) i := by
    intro i hi
    rw [rdP_get, rdP_get, ht1, List.getD_eq_getElem?_getD, List.getD_eq_getElem?_getD, List.getElem?_set_ne (by omega)]
  have e2 : rdP (l1.take 30) p = ⟨(rdP l0 p).f0, tx, (rdP l0 p).f2, (rdP l0 p).f3⟩ := by
    rw [rdP_get, ht1, List.getD_eq_getElem?_getD, List.getElem?_set_self hpt]
    rfl
  have hd : Diff1 (l0.take 30) (l1.take 30) p := by
    refine ⟨by rw [ht1, List.length_set], fun i => ?_, fun i hi => by rw [e1 i hi], fun i => ?_⟩
    · by_cases hi : i = p
      · subst hi; rw [e2, e0 i (by omega)]
      · rw [e1 i hi]
    · by_cases hi : i = p
      · subst hi; rw [e2, e0 i (by omega)]
      · rw [e1 i hi]
  have hl1 : (l1.take 30).length = (l0.take 30).length := hd.len.symm
  have hcut : cutB tx 20 = tx := by unfold cutB; rw [if_neg (by omega)]
  have hb : bL (cutB (rdP (l0.take 30) p).f1 20) = (cutB (rdP l0 p).f1 20).toList := by rw [e0 p (by omega), bL_toList]
  have hb1 : bL (cutB (rdP (l1.take 30) p).f1 20) = tx.toList := by rw [e2, bL_toList]; simp only; rw [hcut]
  unfold treeP
  rw [hl1, if_neg (by omega), if_neg (by omega)]
  by_cases hq : (cutB (rdP l0 p).f1 20).toList = tx.toList
  · rw [grow_eq hd (by rw [hb, hb1, hq]), hq]
    simp
  · rw [grow_ne hd (by omega) hpt (by rw [hb, hb1]; exact hq), beq_eq_false_iff_ne.2 hq]
    rfl
set_option maxRecDepth 100000 in
set_option maxHeartbeats 8000000 in
theorem other_calls (A0 : Option Addr) (c0 : Nat) (l0 : List APart) (a1 : Int) (a2 : ByteArray) (w : World) (hr0 : Kd.C k42 w A0 l0.length l0) (hc0 : l0.length ≤ c0) (hT : TB w) (hlen : l0.length < 2932031007402)  :
    Calls Tryd.prog 6 #[.slice A0 l0.length c0, .int .i64 a1, .string a2] w fun e w' => e = .returned (.bool true) ∧ Below w.heap.size w w' := by
  have hu := Tryd.underlying26
  have hu2 := Tryd.underlying29
  have hu3 := Tryd.underlying42
  have hsz := treeP_size l0
  have HG := Lib.hid (fun W (hb : Below w.heap.size w W) => Grow_tree A0 c0 l0 W (Kd.C_below hr0 hb) hc0 (TB.below hT hb))
  have hT := Lib.hid hT
  have hself := Lib.hid (same_self (treeP l0))
  by_cases q1 : (l0.length : Int) = 0
  · have g1 : ((l0.length : Int) == 0) = true := by simpa using q1
    generalize treeP l0 = n at HG hsz hself
    go_enter Tryd.func6, Tryd.ntmps6
    go_wp2_with (first
      | (go_at_call 9; (with_reducible refine (HG.out _ (Below.refl _ _)).mono ?_); rintro e w2 ⟨A, c, A', c', rfl, h1, h2, h3, h4, hb2⟩; have HB2 := Lib.hid hb2; have HC := Lib.hid h2; clear hb2 h4 h3 h2;
         have HW3 := Lib.hid (((Below.refl w2.heap.size w2).alloc (Nat.le_refl _) (.cells #[.string n.f0, .string n.f1, .int .i64 n.f2, .slice A n.f3.length c] 26)).alloc (by simp) (.cells #[.string n.f0, .string n.f1, .int .i64 n.f2, .slice A' (tlL n.f3).length c'] 29)); have HN3 : Hid (((w2.alloc (.cells #[.string n.f0, .string n.f1, .int .i64 n.f2, .slice A n.f3.length c] 26)).alloc (.cells #[.string n.f0, .string n.f1, .int .i64 n.f2, .slice A' (tlL n.f3).length c'] 29)).heap[w2.heap.size]? = some (.cells #[.string n.f0, .string n.f1, .int .i64 n.f2, .slice A n.f3.length c] 26 (0, 0))) := Lib.hid ((Below.heap_alloc _ _ _ (by simp)).trans (heap_alloc_new w2 _)))
      | (go_at_call 8; (with_reducible refine (scribelaw12_awake.calls true _ (TB.below hT.out (HB2.out.trans (HW3.out.mono HB2.out.size))) awake12_ev).mono ?_); rintro e w4 ⟨rfl, hb4⟩; have HN4 := Lib.hid ((hb4.block _ (by simp; omega)).trans HN3.out); have HC4 := Lib.hid (Kd.C_below (Kd.C_below HC.out HW3.out) hb4); have HB4 := Lib.hid (HB2.out.trans ((HW3.out.trans (hb4.mono HW3.out.size)).mono HB2.out.size)); clear hb4; have d0 : w4.cell? ⟨w2.heap.size, 0, none⟩ = some (.string n.f0) := (blk_cell HN4.out 0).trans rfl; have d1 : w4.cell? ⟨w2.heap.size, 1, none⟩ = some (.string n.f1) := (blk_cell HN4.out 1).trans rfl; have d2 : w4.cell? ⟨w2.heap.size, 2, none⟩ = some (.int .i64 n.f2) := (blk_cell HN4.out 2).trans rfl; have d3 : w4.cell? ⟨w2.heap.size, 3, none⟩ = some (.slice A n.f3.length c) := (blk_cell HN4.out 3).trans rfl)
      | (go_at_call 15; (with_reducible refine (ast_Same.calls n.f0 n.f1 n.f2 A c n.f3 n.f0 n.f1 n.f2 A c n.f3 (sameT n n) _ HC4.out h1 HC4.out h1 (TB.below hT.out HB4.out) (same_ev n n)).mono ?_); rintro e w5 ⟨rfl, hb5⟩; rw [hself.out]))
    go_ret
    exact ⟨rfl, HB4.out.trans (hb5.mono HB4.out.size)⟩
  · have g1 : ((l0.length : Int) == 0) = false := by exact beq_eq_false_iff_ne.2 q1
    by_cases q2 : a1 < 0
    · have g2 : decide (a1 < 0) = true := decide_eq_true (by omega)
      generalize treeP l0 = n at HG hsz hself
      go_enter Tryd.func6, Tryd.ntmps6
      go_wp2_with (first
        | (go_at_call 9; (with_reducible refine (HG.out _ (Below.refl _ _)).mono ?_); rintro e w2 ⟨A, c, A', c', rfl, h1, h2, h3, h4, hb2⟩; have HB2 := Lib.hid hb2; have HC := Lib.hid h2; clear hb2 h4 h3 h2;
           have HW3 := Lib.hid (((Below.refl w2.heap.size w2).alloc (Nat.le_refl _) (.cells #[.string n.f0, .string n.f1, .int .i64 n.f2, .slice A n.f3.length c] 26)).alloc (by simp) (.cells #[.string n.f0, .string n.f1, .int .i64 n.f2, .slice A' (tlL n.f3).length c'] 29)); have HN3 : Hid (((w2.alloc (.cells #[.string n.f0, .string n.f1, .int .i64 n.f2, .slice A n.f3.length c] 26)).alloc (.cells #[.string n.f0, .string n.f1, .int .i64 n.f2, .slice A' (tlL n.f3).length c'] 29)).heap[w2.heap.size]? = some (.cells #[.string n.f0, .string n.f1, .int .i64 n.f2, .slice A n.f3.length c] 26 (0, 0))) := Lib.hid ((Below.heap_alloc _ _ _ (by simp)).trans (heap_alloc_new w2 _)))
        | (go_at_call 8; (with_reducible refine (scribelaw12_awake.calls true _ (TB.below hT.out (HB2.out.trans (HW3.out.mono HB2.out.size))) awake12_ev).mono ?_); rintro e w4 ⟨rfl, hb4⟩; have HN4 := Lib.hid ((hb4.block _ (by simp; omega)).trans HN3.out); have HC4 := Lib.hid (Kd.C_below (Kd.C_below HC.out HW3.out) hb4); have HB4 := Lib.hid (HB2.out.trans ((HW3.out.trans (hb4.mono HW3.out.size)).mono HB2.out.size)); clear hb4; have d0 : w4.cell? ⟨w2.heap.size, 0, none⟩ = some (.string n.f0) := (blk_cell HN4.out 0).trans rfl; have d1 : w4.cell? ⟨w2.heap.size, 1, none⟩ = some (.string n.f1) := (blk_cell HN4.out 1).trans rfl; have d2 : w4.cell? ⟨w2.heap.size, 2, none⟩ = some (.int .i64 n.f2) := (blk_cell HN4.out 2).trans rfl; have d3 : w4.cell? ⟨w2.heap.size, 3, none⟩ = some (.slice A n.f3.length c) := (blk_cell HN4.out 3).trans rfl)
        | (go_at_call 15; (with_reducible refine (ast_Same.calls n.f0 n.f1 n.f2 A c n.f3 n.f0 n.f1 n.f2 A c n.f3 (sameT n n) _ HC4.out h1 HC4.out h1 (TB.below hT.out HB4.out) (same_ev n n)).mono ?_); rintro e w5 ⟨rfl, hb5⟩; rw [hself.out]))
      go_ret
      exact ⟨rfl, HB4.out.trans (hb5.mono HB4.out.size)⟩
    · have g2 : decide (a1 < 0) = false := decide_eq_false (by omega)
      by_cases q3 : (l0.length : Int) ≤ a1
      · have g3 : decide (a1 ≥ (l0.length : Int)) = true := decide_eq_true (by omega)
        have g6 : decide ((l0.length : Int) ≤ a1) = true := decide_eq_true (by omega)
        generalize treeP l0 = n at HG hsz hself
        go_enter Tryd.func6, Tryd.ntmps6
        go_wp2_with (first
          | (go_at_call 9; (with_reducible refine (HG.out _ (Below.refl _ _)).mono ?_); rintro e w2 ⟨A, c, A', c', rfl, h1, h2, h3, h4, hb2⟩; have HB2 := Lib.hid hb2; have HC := Lib.hid h2; clear hb2 h4 h3 h2;
             have HW3 := Lib.hid (((Below.refl w2.heap.size w2).alloc (Nat.le_refl _) (.cells #[.string n.f0, .string n.f1, .int .i64 n.f2, .slice A n.f3.length c] 26)).alloc (by simp) (.cells #[.string n.f0, .string n.f1, .int .i64 n.f2, .slice A' (tlL n.f3).length c'] 29)); have HN3 : Hid (((w2.alloc (.cells #[.string n.f0, .string n.f1, .int .i64 n.f2, .slice A n.f3.length c] 26)).alloc (.cells #[.string n.f0, .string n.f1, .int .i64 n.f2, .slice A' (tlL n.f3).length c'] 29)).heap[w2.heap.size]? = some (.cells #[.string n.f0, .string n.f1, .int .i64 n.f2, .slice A n.f3.length c] 26 (0, 0))) := Lib.hid ((Below.heap_alloc _ _ _ (by simp)).trans (heap_alloc_new w2 _)))
          | (go_at_call 8; (with_reducible refine (scribelaw12_awake.calls true _ (TB.below hT.out (HB2.out.trans (HW3.out.mono HB2.out.size))) awake12_ev).mono ?_); rintro e w4 ⟨rfl, hb4⟩; have HN4 := Lib.hid ((hb4.block _ (by simp; omega)).trans HN3.out); have HC4 := Lib.hid (Kd.C_below (Kd.C_below HC.out HW3.out) hb4); have HB4 := Lib.hid (HB2.out.trans ((HW3.out.trans (hb4.mono HW3.out.size)).mono HB2.out.size)); clear hb4; have d0 : w4.cell? ⟨w2.heap.size, 0, none⟩ = some (.string n.f0) := (blk_cell HN4.out 0).trans rfl; have d1 : w4.cell? ⟨w2.heap.size, 1, none⟩ = some (.string n.f1) := (blk_cell HN4.out 1).trans rfl; have d2 : w4.cell? ⟨w2.heap.size, 2, none⟩ = some (.int .i64 n.f2) := (blk_cell HN4.out 2).trans rfl; have d3 : w4.cell? ⟨w2.heap.size, 3, none⟩ = some (.slice A n.f3.length c) := (blk_cell HN4.out 3).trans rfl)
          | (go_at_call 15; (with_reducible refine (ast_Same.calls n.f0 n.f1 n.f2 A c n.f3 n.f0 n.f1 n.f2 A c n.f3 (sameT n n) _ HC4.out h1 HC4.out h1 (TB.below hT.out HB4.out) (same_ev n n)).mono ?_); rintro e w5 ⟨rfl, hb5⟩; rw [hself.out]))
        go_ret
        exact ⟨rfl, HB4.out.trans (hb5.mono HB4.out.size)⟩
      · have g3 : decide (a1 ≥ (l0.length : Int)) = false := decide_eq_false (by omega)
        have g6 : decide ((l0.length : Int) ≤ a1) = false := decide_eq_false (by omega)
        by_cases q4 : 30 ≤ a1
        · have g4 : decide (a1 ≥ 30) = true := decide_eq_true (by omega)
          have g7 : decide (30 ≤ a1) = true := decide_eq_true (by omega)
          generalize treeP l0 = n at HG hsz hself
          go_enter Tryd.func6, Tryd.ntmps6
          go_wp2_with (first
            | (go_at_call 9; (with_reducible refine (HG.out _ (Below.refl _ _)).mono ?_); rintro e w2 ⟨A, c, A', c', rfl, h1, h2, h3, h4, hb2⟩; have HB2 := Lib.hid hb2; have HC := Lib.hid h2; clear hb2 h4 h3 h2;
               have HW3 := Lib.hid (((Below.refl w2.heap.size w2).alloc (Nat.le_refl _) (.cells #[.string n.f0, .string n.f1, .int .i64 n.f2, .slice A n.f3.length c] 26)).alloc (by simp) (.cells #[.string n.f0, .string n.f1, .int .i64 n.f2, .slice A' (tlL n.f3).length c'] 29)); have HN3 : Hid (((w2.alloc (.cells #[.string n.f0, .string n.f1, .int .i64 n.f2, .slice A n.f3.length c] 26)).alloc (.cells #[.string n.f0, .string n.f1, .int .i64 n.f2, .slice A' (tlL n.f3).length c'] 29)).heap[w2.heap.size]? = some (.cells #[.string n.f0, .string n.f1, .int .i64 n.f2, .slice A n.f3.length c] 26 (0, 0))) := Lib.hid ((Below.heap_alloc _ _ _ (by simp)).trans (heap_alloc_new w2 _)))
            | (go_at_call 8; (with_reducible refine (scribelaw12_awake.calls true _ (TB.below hT.out (HB2.out.trans (HW3.out.mono HB2.out.size))) awake12_ev).mono ?_); rintro e w4 ⟨rfl, hb4⟩; have HN4 := Lib.hid ((hb4.block _ (by simp; omega)).trans HN3.out); have HC4 := Lib.hid (Kd.C_below (Kd.C_below HC.out HW3.out) hb4); have HB4 := Lib.hid (HB2.out.trans ((HW3.out.trans (hb4.mono HW3.out.size)).mono HB2.out.size)); clear hb4; have d0 : w4.cell? ⟨w2.heap.size, 0, none⟩ = some (.string n.f0) := (blk_cell HN4.out 0).trans rfl; have d1 : w4.cell? ⟨w2.heap.size, 1, none⟩ = some (.string n.f1) := (blk_cell HN4.out 1).trans rfl; have d2 : w4.cell? ⟨w2.heap.size, 2, none⟩ = some (.int .i64 n.f2) := (blk_cell HN4.out 2).trans rfl; have d3 : w4.cell? ⟨w2.heap.size, 3, none⟩ = some (.slice A n.f3.length c) := (blk_cell HN4.out 3).trans rfl)
            | (go_at_call 15; (with_reducible refine (ast_Same.calls n.f0 n.f1 n.f2 A c n.f3 n.f0 n.f1 n.f2 A c n.f3 (sameT n n) _ HC4.out h1 HC4.out h1 (TB.below hT.out HB4.out) (same_ev n n)).mono ?_); rintro e w5 ⟨rfl, hb5⟩; rw [hself.out]))
          go_ret
          exact ⟨rfl, HB4.out.trans (hb5.mono HB4.out.size)⟩
        · have g4 : decide (a1 ≥ 30) = false := decide_eq_false (by omega)
          have g7 : decide (30 ≤ a1) = false := decide_eq_false (by omega)
          by_cases q5 : 15 < (a2.size : Int)
          · have g5 : decide ((a2.size : Int) > 15) = true := decide_eq_true (by omega)
            have g8 : decide (15 < (a2.size : Int)) = true := decide_eq_true (by omega)
            generalize treeP l0 = n at HG hsz hself
            go_enter Tryd.func6, Tryd.ntmps6
            go_wp2_with (first
              | (go_at_call 9; (with_reducible refine (HG.out _ (Below.refl _ _)).mono ?_); rintro e w2 ⟨A, c, A', c', rfl, h1, h2, h3, h4, hb2⟩; have HB2 := Lib.hid hb2; have HC := Lib.hid h2; clear hb2 h4 h3 h2;
                 have HW3 := Lib.hid (((Below.refl w2.heap.size w2).alloc (Nat.le_refl _) (.cells #[.string n.f0, .string n.f1, .int .i64 n.f2, .slice A n.f3.length c] 26)).alloc (by simp) (.cells #[.string n.f0, .string n.f1, .int .i64 n.f2, .slice A' (tlL n.f3).length c'] 29)); have HN3 : Hid (((w2.alloc (.cells #[.string n.f0, .string n.f1, .int .i64 n.f2, .slice A n.f3.length c] 26)).alloc (.cells #[.string n.f0, .string n.f1, .int .i64 n.f2, .slice A' (tlL n.f3).length c'] 29)).heap[w2.heap.size]? = some (.cells #[.string n.f0, .string n.f1, .int .i64 n.f2, .slice A n.f3.length c] 26 (0, 0))) := Lib.hid ((Below.heap_alloc _ _ _ (by simp)).trans (heap_alloc_new w2 _)))
              | (go_at_call 8; (with_reducible refine (scribelaw12_awake.calls true _ (TB.below hT.out (HB2.out.trans (HW3.out.mono HB2.out.size))) awake12_ev).mono ?_); rintro e w4 ⟨rfl, hb4⟩; have HN4 := Lib.hid ((hb4.block _ (by simp; omega)).trans HN3.out); have HC4 := Lib.hid (Kd.C_below (Kd.C_below HC.out HW3.out) hb4); have HB4 := Lib.hid (HB2.out.trans ((HW3.out.trans (hb4.mono HW3.out.size)).mono HB2.out.size)); clear hb4; have d0 : w4.cell? ⟨w2.heap.size, 0, none⟩ = some (.string n.f0) := (blk_cell HN4.out 0).trans rfl; have d1 : w4.cell? ⟨w2.heap.size, 1, none⟩ = some (.string n.f1) := (blk_cell HN4.out 1).trans rfl; have d2 : w4.cell? ⟨w2.heap.size, 2, none⟩ = some (.int .i64 n.f2) := (blk_cell HN4.out 2).trans rfl; have d3 : w4.cell? ⟨w2.heap.size, 3, none⟩ = some (.slice A n.f3.length c) := (blk_cell HN4.out 3).trans rfl)
              | (go_at_call 15; (with_reducible refine (ast_Same.calls n.f0 n.f1 n.f2 A c n.f3 n.f0 n.f1 n.f2 A c n.f3 (sameT n n) _ HC4.out h1 HC4.out h1 (TB.below hT.out HB4.out) (same_ev n n)).mono ?_); rintro e w5 ⟨rfl, hb5⟩; rw [hself.out]))
            go_ret
            exact ⟨rfl, HB4.out.trans (hb5.mono HB4.out.size)⟩
          · have g5 : decide ((a2.size : Int) > 15) = false := decide_eq_false (by omega)
            have g8 : decide (15 < (a2.size : Int)) = false := decide_eq_false (by omega)
            -- REST
            have hat0 : 0 ≤ a1 := by omega
            have hatl : a1 < (l0.length : Int) := by omega
            obtain ⟨l1, hl1⟩ : ∃ l1, l1 = l0.set a1.toNat (⟨(rd_T42 l0 a1).f0, a2, (rd_T42 l0 a1).f2, (rd_T42 l0 a1).f3⟩ : APart) := ⟨_, rfl⟩
            have hl1l : l1.length = l0.length := by rw [hl1, List.length_set]
            have HSAME := Lib.hid (other_same l0 l1 a1 a2 hat0 hatl (by omega) (by omega) hl1)
            have hsz1 := treeP_size l1
            have HG1 := Lib.hid (fun A co W hr hc hT => (by have h := Grow_tree A co l1 W hr hc hT; rwa [hl1l] at h : Calls Tryd.prog 9 #[.slice A l0.length co] W _))
            generalize treeP l1 = m at HG1 hsz1 HSAME
            generalize treeP l0 = n at HG hsz hself HSAME
            have HL1 := Lib.hid hl1
            clear hl1
            go_enter Tryd.func6, Tryd.ntmps6
            go_upto_if 40 with (go_at_call 9; (with_reducible refine (HG.out _ (Below.refl _ _)).mono ?_); rintro e w2 ⟨A, c, A', c', rfl, h1, h2, h3, h4, hb2⟩; have HB2 := Lib.hid hb2; have HC := Lib.hid h2; clear hb2 h4 h3 h2)
            obtain ⟨W3, hW3⟩ : ∃ W3, ((w2.alloc (.cells #[.string n.f0, .string n.f1, .int .i64 n.f2, .slice A n.f3.length c] 26)).alloc (.cells #[.string n.f0, .string n.f1, .int .i64 n.f2, .slice A' (tlL n.f3).length c'] 29)) = W3 := ⟨_, rfl⟩
            have hb23 : Below w2.heap.size w2 W3 := by rw [← hW3]; exact ((Below.refl _ _).alloc (Nat.le_refl _) _).alloc (by simp) _
            have hs3 : W3.heap.size = w2.heap.size + 2 := by rw [← hW3]; simp
            have HN3 : Hid (W3.heap[w2.heap.size]? = some (.cells #[.string n.f0, .string n.f1, .int .i64 n.f2, .slice A n.f3.length c] 26 (0, 0))) := Lib.hid (by rw [← hW3]; exact (Below.heap_alloc _ _ _ (by simp)).trans (heap_alloc_new w2 _))
            have HB3 := Lib.hid (HB2.out.trans (hb23.mono HB2.out.size))
            have HC3 := Lib.hid (Kd.C_below HC.out hb23)
            have HL3 := Lib.hid (Kd.C_below hr0 HB3.out)
            rw [hW3]
            clear hW3 HC hb23 hr0
            obtain ⟨ad, hAd, x0, x1, x2, x3⟩ := at_T42 HL3.out a1 hat0 hatl
            subst hAd
            have hadl := World.block_lt_of_cell? _ _ x1
            have HX1 := Lib.hid x1
            clear x0 x1 x2 x3
            go_upto_if 67 with (first
              | ((with_reducible refine gate_dst (N := 47) rfl ?_); (try (refine gate_guard (by rfl) ?_; dsimp only)); refine Kd.R_lit k42 _ 42 ?hg (N := 47) ?hd (xs := ([] : List APart)) (inner := []) (ok := fun _ => True) (okp := fun _ => True) ?hr ?hp (fun _ hk => hk) trivial (Below.refl _ _) (Nat.le_refl _) (by simp) ?_; (case hd => rfl); (case hg => rfl); (case hr => first | (go_simp; done) | (go_simp; rfl)); (case hp => exact (Reps.none _ _)); intro v47 w34 ho35 hb hg_ hnew_; have HO := Lib.hid ho35; have HB34 := Lib.hid hb; clear hg_ hnew_ ho35 hb)
              | ((with_reducible refine gate_builtin (b := .append) (xs := #[.tmp 47, .tmp 48]) rfl ?_); (try (refine gate_guard (by rfl) ?_; dsimp only)); at_builtin; refine Kd.R_append_rows k42 (w0 := W3) W3.heap.size rfl (.tmp 47) (.tmp 48) 22 42 (.agg #[(.string ⟨#[]⟩), (.string ⟨#[]⟩), (.int .i64 0), (.int .i64 0)]) 48 rfl Tryd.underlying22 info42 rfl (by decide) (by omega) v47 [] l0 _ _ _ (fun _ => True) (fun _ => False) rfl rfl ?aO ?aR (fun _ _ h => h) (fun _ h => h.elim) (fun _ _ => trivial) ?aB ?aS ?aL ?_; (case aR => exact Kd.C_below HL3.out HB34.out); (case aB => exact HB34.out); (case aO => exact HO.out); (case aS => exact HB34.out.size); (case aL => simp only [List.length_nil]; omega); intro v49 w36 ho hb hg hat; have ho : Kd.R k42 42 w36 W3.heap.size (fun _ => True) v49 l0 := ho; clear HO HB34 hg hat; have HB36 := Lib.hid hb; clear hb; obtain ⟨go, co, rfl, gb, gl, cl, HGC⟩ := Kd.R_form ho (by omega); have HO := Lib.hid ho; clear ho; obtain ⟨ce, hcl, hM, hcc, hfr⟩ := Kd.R_elem HO.out z42 a1 hat0 hatl; obtain rfl := k42_openM hM; have HP := Lib.hid (Kd.R_seg HO.out a1 hat0 hatl (seg := [.string a2]) (j := 1) hcl hcc (show 2 ≤ 4 from by decide) (x' := (⟨(rd_T42 l0 a1).f0, a2, (rd_T42 l0 a1).f2, (rd_T42 l0 a1).f3⟩ : APart)) (k42_mkM _ _ _ (⟨(rd_T42 l0 a1).f0, a2, (rd_T42 l0 a1).f2, (rd_T42 l0 a1).f3⟩ : APart)) (fun _ hk => hk)); have hx1 := hcc 1 _ rfl; (try simp only [show (k42).sz = 4 from rfl, Nat.mul_one, Nat.add_zero] at hx1); have hf1 := hfr 1; (try simp only [show (k42).sz = 4 from rfl, Nat.mul_one, Nat.add_zero] at hf1); clear hcl hcc hfr hM HGC cl)
              | (go_at_call 9; (with_reducible refine (HG1.out (some ⟨go, 0, none⟩) co _ ?s1 ?s2 ?s3).mono ?_); (case s1 => rw [HL1.out, List.length_set]; have h := (Kd.R_reads' HP.out.1).2.2; rw [List.length_set] at h; exact h); (case s2 => rw [hl1l]; exact (Kd.R_reads' HO.out).2.1); (case s3 => exact TB.below hT.out (HB3.out.trans ((below_set HB36.out gb).mono HB3.out.size))); rintro e w39 ⟨A2, c2, A2', c2', rfl, k1, k2, k3, k4, hb⟩; have HB39 := Lib.hid ((below_set HB36.out gb : Below W3.heap.size W3 (w36.setCell ⟨go, a1.toNat * 4 + 1, none⟩ (.string a2))).trans (hb.mono (below_set HB36.out gb : Below W3.heap.size W3 (w36.setCell ⟨go, a1.toNat * 4 + 1, none⟩ (.string a2))).size)); have HM39 := Lib.hid k2; have hb40 : Below w39.heap.size w39 ((w39.alloc (.cells #[.string m.f0, .string m.f1, .int .i64 m.f2, .slice A2 m.f3.length c2] 26)).alloc (.cells #[.string m.f0, .string m.f1, .int .i64 m.f2, .slice A2' (tlL m.f3).length c2'] 29)) := ((Below.refl _ _).alloc (Nat.le_refl _) _).alloc (by simp) _; have t1 := ((HB39.out.trans (hb40.mono HB39.out.size)).cell (p := ⟨(ad.add (a1.toNat * 4)).block, (ad.add (a1.toNat * 4)).off + 1, none⟩) hadl).trans HX1.out; clear HP HO HB36 hb k2 k3 k4 hx1 hf1))
            obtain ⟨W6, hW6⟩ : ∃ W6, ((w39.alloc (.cells #[.string m.f0, .string m.f1, .int .i64 m.f2, .slice A2 m.f3.length c2] 26)).alloc (.cells #[.string m.f0, .string m.f1, .int .i64 m.f2, .slice A2' (tlL m.f3).length c2'] 29)) = W6 := ⟨_, rfl⟩
            have hs6 : W6.heap.size = w39.heap.size + 2 := by rw [← hW6]; simp
            have HB6 := Lib.hid (show Below W3.heap.size W3 W6 by rw [← hW6]; exact HB39.out.trans (hb40.mono HB39.out.size))
            have HM6 : Hid (W6.heap[w39.heap.size]? = some (.cells #[.string m.f0, .string m.f1, .int .i64 m.f2, .slice A2 m.f3.length c2] 26 (0, 0))) := Lib.hid (by rw [← hW6]; exact (Below.heap_alloc _ _ _ (by simp)).trans (heap_alloc_new w39 _))
            have HMC6 : Hid (Kd.C k26 W6 A2 m.f3.length m.f3) := Lib.hid (by rw [← hW6]; exact Kd.C_below HM39.out hb40)
            have hw6 := HB6.out.size
            have hnl := kids_le n
            have HN6 := Lib.hid ((HB6.out.block _ (by omega)).trans HN3.out)
            have HC6 := Lib.hid (Kd.C_below HC3.out HB6.out)
            rw [hW6] at t1 ⊢
            clear hW6 hb40 HM39
            obtain ⟨tx, htx⟩ : ∃ tx, (rd_T42 l0 a1).f1 = tx := ⟨_, rfl⟩
            rw [htx] at t1 HSAME ⊢
            by_cases hcut : 20 < (tx.size : Int)
            · have e20 : decide ((tx.size : Int) > 20) = true := decide_eq_true hcut
              have e21 : decide (20 < (tx.size : Int)) = true := decide_eq_true hcut
              have hws : cutB tx 20 = tx.extract 0 20 := by unfold cutB; exact if_pos hcut
              rw [hws] at HSAME
              have HX6 : Hid (Kd.C k26 (W6.alloc (.cells #[.string n.f0, .string n.f1, .int .i64 n.f2, .slice A n.f3.length c] 26)) A n.f3.length n.f3) := Lib.hid (Kd.C_below HC6.out ((Below.refl _ _).alloc (Nat.le_refl _) _))
              have HXN : Hid ((W6.alloc (.cells #[.string n.f0, .string n.f1, .int .i64 n.f2, .slice A n.f3.length c] 26)).heap[w2.heap.size]? = some (.cells #[.string n.f0, .string n.f1, .int .i64 n.f2, .slice A n.f3.length c] 26 (0, 0))) := Lib.hid ((Below.heap_alloc _ _ _ (by omega)).trans HN6.out)
              have HXX : Hid ((W6.alloc (.cells #[.string n.f0, .string n.f1, .int .i64 n.f2, .slice A n.f3.length c] 26)).heap[W6.heap.size]? = some (.cells #[.string n.f0, .string n.f1, .int .i64 n.f2, .slice A n.f3.length c] 26 (0, 0))) := Lib.hid (heap_alloc_new W6 _)
              have hsm := HSAME.out
              have hmore : Hid (sameT n (⟨n.f0, n.f1, n.f2, n.f3 ++ [(⟨(⟨#[]⟩ : ByteArray), (⟨#[]⟩ : ByteArray), 0, ([] : List ANode)⟩ : ANode)]⟩ : ANode) = false) := Lib.hid (same_more n _)
              have d0 : W6.cell? ⟨w2.heap.size, 0, none⟩ = some (.string n.f0) := (blk_cell HN6.out 0).trans rfl; have d1 : W6.cell? ⟨w2.heap.size, 1, none⟩ = some (.string n.f1) := (blk_cell HN6.out 1).trans rfl; have d2 : W6.cell? ⟨w2.heap.size, 2, none⟩ = some (.int .i64 n.f2) := (blk_cell HN6.out 2).trans rfl; have d3 : W6.cell? ⟨w2.heap.size, 3, none⟩ = some (.slice A n.f3.length c) := (blk_cell HN6.out 3).trans rfl
              go_wp2_with (first
                | ((with_reducible refine gate_dst (N := 71) rfl ?_); (try (refine gate_guard (by rfl) ?_; dsimp only)); refine Kd.N_lit k26 _ 26 ?hg (N' := 71) ?hd (xs := ([] : List ANode)) (inner := []) (ok := fun k => k ≠ W6.heap.size) (okp := fun k => k ≠ W6.heap.size) ?hr ?hp (fun _ hk => hk) (by show _ ≠ _; simp) (Below.refl _ _) (Nat.le_refl _) (by simp) ?_; (case hd => rfl); (case hg => rfl); (case hr => first | (go_simp; done) | (go_simp; rfl)); (case hp => exact (Reps.none _ _)); intro v71 w71 ho hb hg_ hnew_; have HO := Lib.hid ho; have HB71 := Lib.hid hb; have e3 : w71.cell? ⟨w2.heap.size, 3, none⟩ = some (.slice A n.f3.length c) := (blk_cell ((hb.block _ (by simp; omega)).trans HXN.out) 3).trans rfl; clear hg_ hnew_ ho hb)
                | ((with_reducible refine gate_builtin (b := .append) (xs := #[.tmp 71, .tmp 73]) rfl ?_); (try (refine gate_guard (by rfl) ?_; dsimp only)); at_builtin; refine Kd.N_append_rows k26 (w0 := (W6.alloc (.cells #[.string n.f0, .string n.f1, .int .i64 n.f2, .slice A n.f3.length c] 26))) (W6.alloc (.cells #[.string n.f0, .string n.f1, .int .i64 n.f2, .slice A n.f3.length c] 26)).heap.size rfl (.tmp 71) (.tmp 73) 24 26 (.agg #[(.string ⟨#[]⟩), (.string ⟨#[]⟩), (.int .i64 0), (.slice none 0 0)]) 64 rfl Tryd.underlying24 info26 rfl (by decide) (by omega) v71 [] n.f3 _ _ _ (fun k => k ≠ W6.heap.size) (fun k => k < W6.heap.size) rfl rfl ?aO ?aR ?aK ?aF ?aB ?aS ?aL ?_; (case aO => exact HO.out); (case aR => exact frame_at HC6.out (((Below.refl W6.heap.size W6).alloc (Nat.le_refl _) _).trans (HB71.out.mono (by simp)))); (case aK => exact fun k hk => ⟨fun e => by omega, fun e => by have := Kd.N_base HO.out k e.symm; simp at this; omega⟩); (case aF => exact fun k hk e => by have := HB71.out.size; simp at this; omega); (case aB => exact HB71.out); (case aS => exact HB71.out.size); (case aL => simp only [List.length_nil]; omega); intro v74 w74 ho hb hg hat; have ho : Kd.N k26 26 w74 (W6.alloc (.cells #[.string n.f0, .string n.f1, .int .i64 n.f2, .slice A n.f3.length c] 26)).heap.size (fun k => k ≠ W6.heap.size) v74 n.f3 := ho; clear HO HB71 hg hat e3; have HO := Lib.hid ho; have HB74 := Lib.hid hb; clear ho hb)
                | ((with_reducible refine gate_builtin (b := .append) (xs := #[.tmp 74, .tmp 76]) rfl ?_); (try (refine gate_guard (by rfl) ?_; dsimp only)); at_builtin; refine Kd.N_append k26 (w0 := (W6.alloc (.cells #[.string n.f0, .string n.f1, .int .i64 n.f2, .slice A n.f3.length c] 26))) (W6.alloc (.cells #[.string n.f0, .string n.f1, .int .i64 n.f2, .slice A n.f3.length c] 26)).heap.size rfl (.tmp 74) (.tmp 76) 24 26 (.agg #[(.string ⟨#[]⟩), (.string ⟨#[]⟩), (.int .i64 0), (.slice none 0 0)]) 64 rfl Tryd.underlying24 info26 rfl (by decide) (by omega) v74 n.f3 (⟨(⟨#[]⟩ : ByteArray), (⟨#[]⟩ : ByteArray), 0, ([] : List ANode)⟩ : ANode) [.string (⟨#[]⟩ : ByteArray), .string (⟨#[]⟩ : ByteArray), .int .i64 0, .slice none 0 0] (fun k => k ≠ W6.heap.size) (fun _ => False) rfl rfl ?aP (fun _ h => h.elim) ?aF ?aO ?aB ?aS ?aL ?_; (case aF => exact fun k hk e => by have := HB74.out.size; simp at this; omega); (case aP => exact (k26_mkF _ _ (⟨(⟨#[]⟩ : ByteArray), (⟨#[]⟩ : ByteArray), 0, ([] : List ANode)⟩ : ANode) (Nat.le_refl _) (Kd.F_nil _ _ _))); (case aO => exact HO.out); (case aB => exact HB74.out); (case aS => exact HB74.out.size); (case aL => omega); intro v77 w77 ho hb hg hat; clear HO HB74 hg hat; obtain ⟨Ax, cx, rfl⟩ := Kd.N_slice ho; rw [List.length_append, List.length_singleton] at ho; have HXN77 := Lib.hid ho; have hxc : n.f3.length + 1 ≤ cx := (Kd.N_reads' ho).2.1; have HB77 := Lib.hid hb; have HXX77 : Hid (w77.heap[w39.heap.size + 2]? = some (.cells #[.string n.f0, .string n.f1, .int .i64 n.f2, .slice A n.f3.length c] 26 (0, 0))) := Lib.hid (by rw [← hs6]; exact (hb.block _ (by simp)).trans HXX.out); have f3 : w77.cell? ⟨w39.heap.size + 2, 3, none⟩ = some (.slice A n.f3.length c) := (blk_cell HXX77.out 3).trans rfl; have g3 := blk_frozen HXX77.out 3; clear ho hb)
                | (go_at_call 8; (with_reducible refine (scribelaw12_awake.calls true _ (TB.below hT.out (HB3.out.trans ((HB6.out.trans ((show Below W6.heap.size W6 (w77.setCell ⟨w39.heap.size + 2, 3, none⟩ (.slice Ax (n.f3.length + 1) cx)) from (((Below.refl W6.heap.size W6).alloc (Nat.le_refl _) _).trans (HB77.out.mono (by simp))).setCell (p := ⟨w39.heap.size + 2, 3, none⟩) (by simp only; omega) _).mono HB6.out.size)).mono HB3.out.size))) awake12_ev).mono ?_); rintro e w80 ⟨rfl, hb80⟩; have HBp := Lib.hid (show Below W6.heap.size W6 (w77.setCell ⟨w39.heap.size + 2, 3, none⟩ (.slice Ax (n.f3.length + 1) cx)) from (((Below.refl W6.heap.size W6).alloc (Nat.le_refl _) _).trans (HB77.out.mono (by simp))).setCell (p := ⟨w39.heap.size + 2, 3, none⟩) (by simp only; omega) _); have HXp : Hid ((w77.setCell ⟨w39.heap.size + 2, 3, none⟩ (.slice Ax (n.f3.length + 1) cx)).heap[w39.heap.size + 2]? = some (.cells #[.string n.f0, .string n.f1, .int .i64 n.f2, .slice Ax (n.f3.length + 1) cx] 26 (0, 0))) := Lib.hid ((blk_set HXX77.out 3 _).trans rfl); have HCp : Hid (Kd.C k26 (w77.setCell ⟨w39.heap.size + 2, 3, none⟩ (.slice Ax (n.f3.length + 1) cx)) Ax (n.f3 ++ [(⟨(⟨#[]⟩ : ByteArray), (⟨#[]⟩ : ByteArray), 0, ([] : List ANode)⟩ : ANode)]).length (n.f3 ++ [(⟨(⟨#[]⟩ : ByteArray), (⟨#[]⟩ : ByteArray), 0, ([] : List ANode)⟩ : ANode)])) := Lib.hid (Kd.N_reads' (Kd.N_far (p := ⟨w39.heap.size + 2, 3, none⟩) HXN77.out (fun k hk e => hk (by rw [e, hs6])) _)).2.2; have HBq := Lib.hid (HBp.out.trans (hb80.mono HBp.out.size)); have HNq := Lib.hid ((HBq.out.block _ (by omega)).trans HN6.out); have HMq := Lib.hid ((HBq.out.block _ (by omega)).trans HM6.out); have HXq := Lib.hid ((hb80.block _ (Array.getElem?_eq_some_iff.1 HXp.out).1).trans HXp.out); have HCq := Lib.hid (Kd.C_below HCp.out hb80); clear HBp HXp HCp; have HBp := HBq; have HXp := HXq; have HCp := HCq; clear HBq HXq HCq; clear hb80 f3 g3 d0 d1 d2 d3; have d0 : w80.cell? ⟨w2.heap.size, 0, none⟩ = some (.string n.f0) := (blk_cell HNq.out 0).trans rfl; have d1 : w80.cell? ⟨w2.heap.size, 1, none⟩ = some (.string n.f1) := (blk_cell HNq.out 1).trans rfl; have d2 : w80.cell? ⟨w2.heap.size, 2, none⟩ = some (.int .i64 n.f2) := (blk_cell HNq.out 2).trans rfl; have d3 : w80.cell? ⟨w2.heap.size, 3, none⟩ = some (.slice A n.f3.length c) := (blk_cell HNq.out 3).trans rfl)
                | (go_at_call 15; (with_reducible refine (ast_Same.calls n.f0 n.f1 n.f2 A c n.f3 n.f0 n.f1 n.f2 A c n.f3 (sameT n n) _ (Kd.C_below HC6.out HBp.out) h1 (Kd.C_below HC6.out HBp.out) h1 (TB.below hT.out (HB3.out.trans ((HB6.out.trans (HBp.out.mono HB6.out.size)).mono HB3.out.size))) (same_ev n n)).mono ?_); rintro e w83 ⟨rfl, hb83⟩; rw [hself.out]; clear HNq HMq d0 d1 d2 d3; have HBq := Lib.hid (HBp.out.trans (hb83.mono HBp.out.size)); have HNq := Lib.hid ((HBq.out.block _ (by omega)).trans HN6.out); have HMq := Lib.hid ((HBq.out.block _ (by omega)).trans HM6.out); have HXq := Lib.hid ((hb83.block _ (Array.getElem?_eq_some_iff.1 HXp.out).1).trans HXp.out); have HCq := Lib.hid (Kd.C_below HCp.out hb83); clear HBp HXp HCp; have HBp := HBq; have HXp := HXq; have HCp := HCq; clear HBq HXq HCq; clear hb83; have d0 : w83.cell? ⟨w2.heap.size, 0, none⟩ = some (.string n.f0) := (blk_cell HNq.out 0).trans rfl; have d1 : w83.cell? ⟨w2.heap.size, 1, none⟩ = some (.string n.f1) := (blk_cell HNq.out 1).trans rfl; have d2 : w83.cell? ⟨w2.heap.size, 2, none⟩ = some (.int .i64 n.f2) := (blk_cell HNq.out 2).trans rfl; have d3 : w83.cell? ⟨w2.heap.size, 3, none⟩ = some (.slice A n.f3.length c) := (blk_cell HNq.out 3).trans rfl; have e0 : w83.cell? ⟨w39.heap.size, 0, none⟩ = some (.string m.f0) := (blk_cell HMq.out 0).trans rfl; have e1 : w83.cell? ⟨w39.heap.size, 1, none⟩ = some (.string m.f1) := (blk_cell HMq.out 1).trans rfl; have e2 : w83.cell? ⟨w39.heap.size, 2, none⟩ = some (.int .i64 m.f2) := (blk_cell HMq.out 2).trans rfl; have e3 : w83.cell? ⟨w39.heap.size, 3, none⟩ = some (.slice A2 m.f3.length c2) := (blk_cell HMq.out 3).trans rfl)
                | (go_at_call 15; (with_reducible refine (ast_Same.calls n.f0 n.f1 n.f2 A c n.f3 m.f0 m.f1 m.f2 A2 c2 m.f3 (sameT n m) _ (Kd.C_below HC6.out HBp.out) h1 (Kd.C_below HMC6.out HBp.out) k1 (TB.below hT.out (HB3.out.trans ((HB6.out.trans (HBp.out.mono HB6.out.size)).mono HB3.out.size))) (same_ev n m)).mono ?_); rintro e w88 ⟨rfl, hb88⟩; rw [(eq_of_beq hsm : sameT n m = _)]; clear HNq HMq d0 d1 d2 d3 e0 e1 e2 e3; have HBq := Lib.hid (HBp.out.trans (hb88.mono HBp.out.size)); have HNq := Lib.hid ((HBq.out.block _ (by omega)).trans HN6.out); have HMq := Lib.hid ((HBq.out.block _ (by omega)).trans HM6.out); have HXq := Lib.hid ((hb88.block _ (Array.getElem?_eq_some_iff.1 HXp.out).1).trans HXp.out); have HCq := Lib.hid (Kd.C_below HCp.out hb88); clear HBp HXp HCp; have HBp := HBq; have HXp := HXq; have HCp := HCq; clear HBq HXq HCq; clear hb88; have d0 : w88.cell? ⟨w2.heap.size, 0, none⟩ = some (.string n.f0) := (blk_cell HNq.out 0).trans rfl; have d1 : w88.cell? ⟨w2.heap.size, 1, none⟩ = some (.string n.f1) := (blk_cell HNq.out 1).trans rfl; have d2 : w88.cell? ⟨w2.heap.size, 2, none⟩ = some (.int .i64 n.f2) := (blk_cell HNq.out 2).trans rfl; have d3 : w88.cell? ⟨w2.heap.size, 3, none⟩ = some (.slice A n.f3.length c) := (blk_cell HNq.out 3).trans rfl; have e0 : w88.cell? ⟨w39.heap.size + 2, 0, none⟩ = some (.string n.f0) := (blk_cell HXp.out 0).trans rfl; have e1 : w88.cell? ⟨w39.heap.size + 2, 1, none⟩ = some (.string n.f1) := (blk_cell HXp.out 1).trans rfl; have e2 : w88.cell? ⟨w39.heap.size + 2, 2, none⟩ = some (.int .i64 n.f2) := (blk_cell HXp.out 2).trans rfl; have e3 : w88.cell? ⟨w39.heap.size + 2, 3, none⟩ = some (.slice Ax (n.f3.length + 1) cx) := (blk_cell HXp.out 3).trans rfl)
                | (go_at_call 15; (with_reducible refine (same_more_calls n _ A c Ax cx _ (Kd.C_below HC6.out HBp.out) h1 HCp.out hxc (TB.below hT.out (HB3.out.trans ((HB6.out.trans (HBp.out.mono HB6.out.size)).mono HB3.out.size)))).mono ?_); rintro e w97 ⟨rfl, hb97⟩))
              go_ret
              exact ⟨rfl, HB3.out.trans ((HB6.out.trans ((HBp.out.trans (hb97.mono HBp.out.size)).mono HB6.out.size)).mono HB3.out.size)⟩
            · have e20 : decide ((tx.size : Int) > 20) = false := decide_eq_false hcut
              have e21 : decide (20 < (tx.size : Int)) = false := decide_eq_false hcut
              have hws : cutB tx 20 = tx := by unfold cutB; exact if_neg hcut
              rw [hws] at HSAME
              have HX6 : Hid (Kd.C k26 (W6.alloc (.cells #[.string n.f0, .string n.f1, .int .i64 n.f2, .slice A n.f3.length c] 26)) A n.f3.length n.f3) := Lib.hid (Kd.C_below HC6.out ((Below.refl _ _).alloc (Nat.le_refl _) _))
              have HXN : Hid ((W6.alloc (.cells #[.string n.f0, .string n.f1, .int .i64 n.f2, .slice A n.f3.length c] 26)).heap[w2.heap.size]? = some (.cells #[.string n.f0, .string n.f1, .int .i64 n.f2, .slice A n.f3.length c] 26 (0, 0))) := Lib.hid ((Below.heap_alloc _ _ _ (by omega)).trans HN6.out)
              have HXX : Hid ((W6.alloc (.cells #[.string n.f0, .string n.f1, .int .i64 n.f2, .slice A n.f3.length c] 26)).heap[W6.heap.size]? = some (.cells #[.string n.f0, .string n.f1, .int .i64 n.f2, .slice A n.f3.length c] 26 (0, 0))) := Lib.hid (heap_alloc_new W6 _)
              have hsm := HSAME.out
              have hmore : Hid (sameT n (⟨n.f0, n.f1, n.f2, n.f3 ++ [(⟨(⟨#[]⟩ : ByteArray), (⟨#[]⟩ : ByteArray), 0, ([] : List ANode)⟩ : ANode)]⟩ : ANode) = false) := Lib.hid (same_more n _)
              have d0 : W6.cell? ⟨w2.heap.size, 0, none⟩ = some (.string n.f0) := (blk_cell HN6.out 0).trans rfl; have d1 : W6.cell? ⟨w2.heap.size, 1, none⟩ = some (.string n.f1) := (blk_cell HN6.out 1).trans rfl; have d2 : W6.cell? ⟨w2.heap.size, 2, none⟩ = some (.int .i64 n.f2) := (blk_cell HN6.out 2).trans rfl; have d3 : W6.cell? ⟨w2.heap.size, 3, none⟩ = some (.slice A n.f3.length c) := (blk_cell HN6.out 3).trans rfl
              go_wp2_with (first
                | ((with_reducible refine gate_dst (N := 71) rfl ?_); (try (refine gate_guard (by rfl) ?_; dsimp only)); refine Kd.N_lit k26 _ 26 ?hg (N' := 71) ?hd (xs := ([] : List ANode)) (inner := []) (ok := fun k => k ≠ W6.heap.size) (okp := fun k => k ≠ W6.heap.size) ?hr ?hp (fun _ hk => hk) (by show _ ≠ _; simp) (Below.refl _ _) (Nat.le_refl _) (by simp) ?_; (case hd => rfl); (case hg => rfl); (case hr => first | (go_simp; done) | (go_simp; rfl)); (case hp => exact (Reps.none _ _)); intro v71 w71 ho hb hg_ hnew_; have HO := Lib.hid ho; have HB71 := Lib.hid hb; have e3 : w71.cell? ⟨w2.heap.size, 3, none⟩ = some (.slice A n.f3.length c) := (blk_cell ((hb.block _ (by simp; omega)).trans HXN.out) 3).trans rfl; clear hg_ hnew_ ho hb)
                | ((with_reducible refine gate_builtin (b := .append) (xs := #[.tmp 71, .tmp 73]) rfl ?_); (try (refine gate_guard (by rfl) ?_; dsimp only)); at_builtin; refine Kd.N_append_rows k26 (w0 := (W6.alloc (.cells #[.string n.f0, .string n.f1, .int .i64 n.f2, .slice A n.f3.length c] 26))) (W6.alloc (.cells #[.string n.f0, .string n.f1, .int .i64 n.f2, .slice A n.f3.length c] 26)).heap.size rfl (.tmp 71) (.tmp 73) 24 26 (.agg #[(.string ⟨#[]⟩), (.string ⟨#[]⟩), (.int .i64 0), (.slice none 0 0)]) 64 rfl Tryd.underlying24 info26 rfl (by decide) (by omega) v71 [] n.f3 _ _ _ (fun k => k ≠ W6.heap.size) (fun k => k < W6.heap.size) rfl rfl ?aO ?aR ?aK ?aF ?aB ?aS ?aL ?_; (case aO => exact HO.out); (case aR => exact frame_at HC6.out (((Below.refl W6.heap.size W6).alloc (Nat.le_refl _) _).trans (HB71.out.mono (by simp)))); (case aK => exact fun k hk => ⟨fun e => by omega, fun e => by have := Kd.N_base HO.out k e.symm; simp at this; omega⟩); (case aF => exact fun k hk e => by have := HB71.out.size; simp at this; omega); (case aB => exact HB71.out); (case aS => exact HB71.out.size); (case aL => simp only [List.length_nil]; omega); intro v74 w74 ho hb hg hat; have ho : Kd.N k26 26 w74 (W6.alloc (.cells #[.string n.f0, .string n.f1, .int .i64 n.f2, .slice A n.f3.length c] 26)).heap.size (fun k => k ≠ W6.heap.size) v74 n.f3 := ho; clear HO HB71 hg hat e3; have HO := Lib.hid ho; have HB74 := Lib.hid hb; clear ho hb)
                | ((with_reducible refine gate_builtin (b := .append) (xs := #[.tmp 74, .tmp 76]) rfl ?_); (try (refine gate_guard (by rfl) ?_; dsimp only)); at_builtin; refine Kd.N_append k26 (w0 := (W6.alloc (.cells #[.string n.f0, .string n.f1, .int .i64 n.f2, .slice A n.f3.length c] 26))) (W6.alloc (.cells #[.string n.f0, .string n.f1, .int .i64 n.f2, .slice A n.f3.length c] 26)).heap.size rfl (.tmp 74) (.tmp 76) 24 26 (.agg #[(.string ⟨#[]⟩), (.string ⟨#[]⟩), (.int .i64 0), (.slice none 0 0)]) 64 rfl Tryd.underlying24 info26 rfl (by decide) (by omega) v74 n.f3 (⟨(⟨#[]⟩ : ByteArray), (⟨#[]⟩ : ByteArray), 0, ([] : List ANode)⟩ : ANode) [.string (⟨#[]⟩ : ByteArray), .string (⟨#[]⟩ : ByteArray), .int .i64 0, .slice none 0 0] (fun k => k ≠ W6.heap.size) (fun _ => False) rfl rfl ?aP (fun _ h => h.elim) ?aF ?aO ?aB ?aS ?aL ?_; (case aF => exact fun k hk e => by have := HB74.out.size; simp at this; omega); (case aP => exact (k26_mkF _ _ (⟨(⟨#[]⟩ : ByteArray), (⟨#[]⟩ : ByteArray), 0, ([] : List ANode)⟩ : ANode) (Nat.le_refl _) (Kd.F_nil _ _ _))); (case aO => exact HO.out); (case aB => exact HB74.out); (case aS => exact HB74.out.size); (case aL => omega); intro v77 w77 ho hb hg hat; clear HO HB74 hg hat; obtain ⟨Ax, cx, rfl⟩ := Kd.N_slice ho; rw [List.length_append, List.length_singleton] at ho; have HXN77 := Lib.hid ho; have hxc : n.f3.length + 1 ≤ cx := (Kd.N_reads' ho).2.1; have HB77 := Lib.hid hb; have HXX77 : Hid (w77.heap[w39.heap.size + 2]? = some (.cells #[.string n.f0, .string n.f1, .int .i64 n.f2, .slice A n.f3.length c] 26 (0, 0))) := Lib.hid (by rw [← hs6]; exact (hb.block _ (by simp)).trans HXX.out); have f3 : w77.cell? ⟨w39.heap.size + 2, 3, none⟩ = some (.slice A n.f3.length c) := (blk_cell HXX77.out 3).trans rfl; have g3 := blk_frozen HXX77.out 3; clear ho hb)
                | (go_at_call 8; (with_reducible refine (scribelaw12_awake.calls true _ (TB.below hT.out (HB3.out.trans ((HB6.out.trans ((show Below W6.heap.size W6 (w77.setCell ⟨w39.heap.size + 2, 3, none⟩ (.slice Ax (n.f3.length + 1) cx)) from (((Below.refl W6.heap.size W6).alloc (Nat.le_refl _) _).trans (HB77.out.mono (by simp))).setCell (p := ⟨w39.heap.size + 2, 3, none⟩) (by simp only; omega) _).mono HB6.out.size)).mono HB3.out.size))) awake12_ev).mono ?_); rintro e w80 ⟨rfl, hb80⟩; have HBp := Lib.hid (show Below W6.heap.size W6 (w77.setCell ⟨w39.heap.size + 2, 3, none⟩ (.slice Ax (n.f3.length + 1) cx)) from (((Below.refl W6.heap.size W6).alloc (Nat.le_refl _) _).trans (HB77.out.mono (by simp))).setCell (p := ⟨w39.heap.size + 2, 3, none⟩) (by simp only; omega) _); have HXp : Hid ((w77.setCell ⟨w39.heap.size + 2, 3, none⟩ (.slice Ax (n.f3.length + 1) cx)).heap[w39.heap.size + 2]? = some (.cells #[.string n.f0, .string n.f1, .int .i64 n.f2, .slice Ax (n.f3.length + 1) cx] 26 (0, 0))) := Lib.hid ((blk_set HXX77.out 3 _).trans rfl); have HCp : Hid (Kd.C k26 (w77.setCell ⟨w39.heap.size + 2, 3, none⟩ (.slice Ax (n.f3.length + 1) cx)) Ax (n.f3 ++ [(⟨(⟨#[]⟩ : ByteArray), (⟨#[]⟩ : ByteArray), 0, ([] : List ANode)⟩ : ANode)]).length (n.f3 ++ [(⟨(⟨#[]⟩ : ByteArray), (⟨#[]⟩ : ByteArray), 0, ([] : List ANode)⟩ : ANode)])) := Lib.hid (Kd.N_reads' (Kd.N_far (p := ⟨w39.heap.size + 2, 3, none⟩) HXN77.out (fun k hk e => hk (by rw [e, hs6])) _)).2.2; have HBq := Lib.hid (HBp.out.trans (hb80.mono HBp.out.size)); have HNq := Lib.hid ((HBq.out.block _ (by omega)).trans HN6.out); have HMq := Lib.hid ((HBq.out.block _ (by omega)).trans HM6.out); have HXq := Lib.hid ((hb80.block _ (Array.getElem?_eq_some_iff.1 HXp.out).1).trans HXp.out); have HCq := Lib.hid (Kd.C_below HCp.out hb80); clear HBp HXp HCp; have HBp := HBq; have HXp := HXq; have HCp := HCq; clear HBq HXq HCq; clear hb80 f3 g3 d0 d1 d2 d3; have d0 : w80.cell? ⟨w2.heap.size, 0, none⟩ = some (.string n.f0) := (blk_cell HNq.out 0).trans rfl; have d1 : w80.cell? ⟨w2.heap.size, 1, none⟩ = some (.string n.f1) := (blk_cell HNq.out 1).trans rfl; have d2 : w80.cell? ⟨w2.heap.size, 2, none⟩ = some (.int .i64 n.f2) := (blk_cell HNq.out 2).trans rfl; have d3 : w80.cell? ⟨w2.heap.size, 3, none⟩ = some (.slice A n.f3.length c) := (blk_cell HNq.out 3).trans rfl)
                | (go_at_call 15; (with_reducible refine (ast_Same.calls n.f0 n.f1 n.f2 A c n.f3 n.f0 n.f1 n.f2 A c n.f3 (sameT n n) _ (Kd.C_below HC6.out HBp.out) h1 (Kd.C_below HC6.out HBp.out) h1 (TB.below hT.out (HB3.out.trans ((HB6.out.trans (HBp.out.mono HB6.out.size)).mono HB3.out.size))) (same_ev n n)).mono ?_); rintro e w83 ⟨rfl, hb83⟩; rw [hself.out]; clear HNq HMq d0 d1 d2 d3; have HBq := Lib.hid (HBp.out.trans (hb83.mono HBp.out.size)); have HNq := Lib.hid ((HBq.out.block _ (by omega)).trans HN6.out); have HMq := Lib.hid ((HBq.out.block _ (by omega)).trans HM6.out); have HXq := Lib.hid ((hb83.block _ (Array.getElem?_eq_some_iff.1 HXp.out).1).trans HXp.out); have HCq := Lib.hid (Kd.C_below HCp.out hb83); clear HBp HXp HCp; have HBp := HBq; have HXp := HXq; have HCp := HCq; clear HBq HXq HCq; clear hb83; have d0 : w83.cell? ⟨w2.heap.size, 0, none⟩ = some (.string n.f0) := (blk_cell HNq.out 0).trans rfl; have d1 : w83.cell? ⟨w2.heap.size, 1, none⟩ = some (.string n.f1) := (blk_cell HNq.out 1).trans rfl; have d2 : w83.cell? ⟨w2.heap.size, 2, none⟩ = some (.int .i64 n.f2) := (blk_cell HNq.out 2).trans rfl; have d3 : w83.cell? ⟨w2.heap.size, 3, none⟩ = some (.slice A n.f3.length c) := (blk_cell HNq.out 3).trans rfl; have e0 : w83.cell? ⟨w39.heap.size, 0, none⟩ = some (.string m.f0) := (blk_cell HMq.out 0).trans rfl; have e1 : w83.cell? ⟨w39.heap.size, 1, none⟩ = some (.string m.f1) := (blk_cell HMq.out 1).trans rfl; have e2 : w83.cell? ⟨w39.heap.size, 2, none⟩ = some (.int .i64 m.f2) := (blk_cell HMq.out 2).trans rfl; have e3 : w83.cell? ⟨w39.heap.size, 3, none⟩ = some (.slice A2 m.f3.length c2) := (blk_cell HMq.out 3).trans rfl)
                | (go_at_call 15; (with_reducible refine (ast_Same.calls n.f0 n.f1 n.f2 A c n.f3 m.f0 m.f1 m.f2 A2 c2 m.f3 (sameT n m) _ (Kd.C_below HC6.out HBp.out) h1 (Kd.C_below HMC6.out HBp.out) k1 (TB.below hT.out (HB3.out.trans ((HB6.out.trans (HBp.out.mono HB6.out.size)).mono HB3.out.size))) (same_ev n m)).mono ?_); rintro e w88 ⟨rfl, hb88⟩; rw [(eq_of_beq hsm : sameT n m = _)]; clear HNq HMq d0 d1 d2 d3 e0 e1 e2 e3; have HBq := Lib.hid (HBp.out.trans (hb88.mono HBp.out.size)); have HNq := Lib.hid ((HBq.out.block _ (by omega)).trans HN6.out); have HMq := Lib.hid ((HBq.out.block _ (by omega)).trans HM6.out); have HXq := Lib.hid ((hb88.block _ (Array.getElem?_eq_some_iff.1 HXp.out).1).trans HXp.out); have HCq := Lib.hid (Kd.C_below HCp.out hb88); clear HBp HXp HCp; have HBp := HBq; have HXp := HXq; have HCp := HCq; clear HBq HXq HCq; clear hb88; have d0 : w88.cell? ⟨w2.heap.size, 0, none⟩ = some (.string n.f0) := (blk_cell HNq.out 0).trans rfl; have d1 : w88.cell? ⟨w2.heap.size, 1, none⟩ = some (.string n.f1) := (blk_cell HNq.out 1).trans rfl; have d2 : w88.cell? ⟨w2.heap.size, 2, none⟩ = some (.int .i64 n.f2) := (blk_cell HNq.out 2).trans rfl; have d3 : w88.cell? ⟨w2.heap.size, 3, none⟩ = some (.slice A n.f3.length c) := (blk_cell HNq.out 3).trans rfl; have e0 : w88.cell? ⟨w39.heap.size + 2, 0, none⟩ = some (.string n.f0) := (blk_cell HXp.out 0).trans rfl; have e1 : w88.cell? ⟨w39.heap.size + 2, 1, none⟩ = some (.string n.f1) := (blk_cell HXp.out 1).trans rfl; have e2 : w88.cell? ⟨w39.heap.size + 2, 2, none⟩ = some (.int .i64 n.f2) := (blk_cell HXp.out 2).trans rfl; have e3 : w88.cell? ⟨w39.heap.size + 2, 3, none⟩ = some (.slice Ax (n.f3.length + 1) cx) := (blk_cell HXp.out 3).trans rfl)
                | (go_at_call 15; (with_reducible refine (same_more_calls n _ A c Ax cx _ (Kd.C_below HC6.out HBp.out) h1 HCp.out hxc (TB.below hT.out (HB3.out.trans ((HB6.out.trans (HBp.out.mono HB6.out.size)).mono HB3.out.size)))).mono ?_); rintro e w97 ⟨rfl, hb97⟩))
              go_ret
              exact ⟨rfl, HB3.out.trans ((HB6.out.trans ((HBp.out.trans (hb97.mono HBp.out.size)).mono HB6.out.size)).mono HB3.out.size)⟩
def scribelaw12_AstOther.f (k : Nat) (l0 : List APart) (a1 : Int) (a2 : ByteArray) : Option Bool := if l0.length < 2932031007402 then some true else none
theorem AstOther_ev (l0 : List APart) (a1 : Int) (a2 : ByteArray) (z0 : l0.length * 48 ≤ 140737488351232) (_w1 : (Lit.int .i64 a1).wf = true) (_w2 : a2.size ≤ 140737488351232) : Ev (fun k => scribelaw12_AstOther.f k l0 a1 a2) true := ⟨0, fun k _ => (by unfold scribelaw12_AstOther.f; exact if_pos (by omega))⟩
theorem scribelaw12_AstOther.calls (k : Nat) (A0 : Option Addr) (c0 : Nat) (l0 : List APart) (a1 : Int) (a2 : ByteArray) (r : Bool) (w : World) (hr0 : Kd.C k42 w A0 l0.length l0) (hc0 : l0.length ≤ c0) (hT : TB w) (h : scribelaw12_AstOther.f k l0 a1 a2 = some r) :
    Calls Tryd.prog 6 #[.slice A0 l0.length c0, .int .i64 a1, .string a2] w fun e w' => e = .returned (.bool r) ∧ Below w.heap.size w w' := by
  unfold scribelaw12_AstOther.f at h
  split at h
  case isFalse => cases h
  rename_i hlen
  obtain rfl := Option.some.inj h
  exact other_calls A0 c0 l0 a1 a2 w hr0 hc0 hT hlen
end Go.Proofs.YtgkojnpbgkglgaaDoor.Pr
