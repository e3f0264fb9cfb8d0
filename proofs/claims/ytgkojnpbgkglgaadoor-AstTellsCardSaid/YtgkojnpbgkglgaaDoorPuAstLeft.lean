/- AstLeft: the parts of a tree may be gone through up to any of them: the law, walked by hand over ast.All. -/
import Derived.Test.YtgkojnpbgkglgaaDoorPuAsT
import Derived.RangeFuncBox
import Derived.Deep.RegionHeld3
set_option linter.unusedVariables false
set_option linter.unusedSimpArgs false
namespace Go.Proofs.YtgkojnpbgkglgaaDoor.Pr
open Go Go.RowKit Go.Shelf Go.Proofs.YtgkojnpbgkglgaaDoorW.PrintWords Go.Proofs.YtgkojnpbgkglgaaDoorW.PrintLast Go.Proofs.YtgkojnpbgkglgaaDoorW.PrintMore
attribute [local go_sem] Oper.semAt_some max2_int min2_int

theorem Grow_tree (A0 : Option Addr) (c0 : Nat) (l0 : List APart) (w : World) (hr0 : Kd.C k42 w A0 l0.length l0) (hc0 : l0.length ≤ c0) (hT : TB w) :
    Calls Tryd.prog 9 #[.slice A0 l0.length c0] w fun e w' => ∃ A c A' c', e = .returned (.tuple #[.agg #[.string (treeP l0).f0, .string (treeP l0).f1, .int .i64 (treeP l0).f2, .slice A (treeP l0).f3.length c], .agg #[.string (treeP l0).f0, .string (treeP l0).f1, .int .i64 (treeP l0).f2, .slice A' (tlL (treeP l0).f3).length c']]) ∧
      (treeP l0).f3.length ≤ c ∧ Kd.C k26 w' A (treeP l0).f3.length (treeP l0).f3 ∧ (tlL (treeP l0).f3).length ≤ c' ∧ Kd.C k29 w' A' (tlL (treeP l0).f3).length (tlL (treeP l0).f3) ∧ Below w.heap.size w w' := by
  obtain ⟨k, hk⟩ := Ev.rounds (Grow_ev l0)
  refine (scribelaw12_Grow.calls k A0 c0 l0 _ _ _ _ _ _ _ _ w hr0 hc0 hT hk).mono ?_
  rintro e w' ⟨v, v', he, hR, hR', hB⟩
  obtain ⟨A, c, rfl, h1, h2⟩ := Kd.R_reads hR
  obtain ⟨A', c', rfl, h3, h4⟩ := Kd.R_reads hR'
  exact ⟨A, c, A', c', he, h1, h2, h3, h4, hB⟩
def marks (Ds : List Nat) : List Deferred := Ds.map fun D => { target := .collected D, args := #[] }
/-- blocks for a loop's deferred calls: each lies as it was laid -/
structure Marks (n₁ : Nat) (Ds : List Nat) (W : World) : Prop where
  live : ∀ D ∈ Ds, W.heap[D]? = some (.deferred (some []))
  up : ∀ D ∈ Ds, n₁ ≤ D
  nodup : Ds.Nodup
theorem Marks.nil (n₁ : Nat) (W : World) : Marks n₁ [] W := ⟨fun _ h => (by cases h), fun _ h => (by cases h), List.nodup_nil⟩
theorem Marks.below {n₁ : Nat} {Ds : List Nat} {W W' : World} (h : Marks n₁ Ds W) (hB : Below W.heap.size W W') : Marks n₁ Ds W' :=
  ⟨fun D hD => (hB.block D (Array.getElem?_eq_some_iff.1 (h.live D hD)).1).trans (h.live D hD), h.up, h.nodup⟩
theorem leaves_marks {F : Fence} {m : Nat} {P : Program} {fn : Func} {tmps : Array Value} {R : Ending → World → Prop} (n₁ : Nat) : ∀ (Ds : List Nat) (W : World), Marks n₁ Ds W → n₁ ≤ W.heap.size →
    (∀ W', Below n₁ W W' → LeavesIn F m P fn tmps R [] .returning W') → LeavesInM F m P fn tmps R (marks Ds) .returning W
  | [], W, _, _, h => h W (Below.refl _ _)
  | D :: Ds, W, hM, hs, h => by
    have hD := hM.live D List.mem_cons_self
    have hn := List.nodup_cons.1 hM.nodup
    refine ⟨by simp, .inl ⟨D, _, rfl, run_takeDeferred hD, ?_⟩⟩
    have hB : Below n₁ W (W.putObj D (.deferred none)) := (Below.refl n₁ W).grown (grownBy_putObj' W D (.deferred none)) hs (fun k e => by cases e; exact hM.up D List.mem_cons_self)
    refine leaves_marks n₁ Ds _ ⟨fun E hE => (World.putObj_heap_other (fun e => by subst e; exact hn.1 hE)).trans (hM.live E (List.mem_cons_of_mem _ hE)), fun E hE => hM.up E (List.mem_cons_of_mem _ hE), hn.2⟩ (Nat.le_trans hs hB.size) ?_
    exact fun W' hW' => h W' (hB.trans hW')
/-- what the test behind a loop reads -/
def LeftS (gk gm gn : Nat) (n : ANode) (A : Option Addr) (c : Nat) (a1 v : Int) (W X : World) : Prop :=
  X.cell? ⟨gk, 0, none⟩ = some (.int .i64 v) ∧ X.cell? ⟨gm, 0, none⟩ = some (.int .i64 a1) ∧ X.cell? ⟨gn, 0, none⟩ = some (.string n.f0) ∧ X.cell? ⟨gn, 1, none⟩ = some (.string n.f1) ∧ X.cell? ⟨gn, 2, none⟩ = some (.int .i64 n.f2) ∧ X.cell? ⟨gn, 3, none⟩ = some (.slice A n.f3.length c) ∧ Below W.heap.size W X
theorem LeftS.below {gk gm gn : Nat} {n : ANode} {A : Option Addr} {c : Nat} {a1 v : Int} {W X Y : World} (h : LeftS gk gm gn n A c a1 v W X) (hb : Below X.heap.size X Y) : LeftS gk gm gn n A c a1 v W Y := by
  obtain ⟨h0, h1, h2, h3, h4, h5, h6⟩ := h
  exact ⟨(hb.cell (World.block_lt_of_cell? _ _ h0)).trans h0, (hb.cell (World.block_lt_of_cell? _ _ h1)).trans h1, (hb.cell (World.block_lt_of_cell? _ _ h2)).trans h2, (hb.cell (World.block_lt_of_cell? _ _ h3)).trans h3, (hb.cell (World.block_lt_of_cell? _ _ h4)).trans h4, (hb.cell (World.block_lt_of_cell? _ _ h5)).trans h5, h6.trans (hb.mono h6.size)⟩
theorem left_size (gk gm gn : Nat) (n : ANode) (A : Option Addr) (c : Nat) (a1 v : Int) (W1 W : World) (hc : n.f3.length ≤ c) (hC : Kd.C k26 W1 A n.f3.length n.f3) (hW : Below W1.heap.size W1 W) (hT : TB W1) (hsz : sizeT n ≤ 1073741824) (X : World) (h : LeftS gk gm gn n A c a1 v W X) :
    Calls Tryd.prog 11 #[.agg #[.string n.f0, .string n.f1, .int .i64 n.f2, .slice A n.f3.length c]] X fun e X' => e = .returned (.int .i64 (sizeT n : Int)) ∧ LeftS gk gm gn n A c a1 v W X' := by
  have hX : Below W1.heap.size W1 X := hW.trans (h.2.2.2.2.2.2.mono hW.size)
  refine (ast_Size.calls n.f0 n.f1 n.f2 A c n.f3 (sizeT n : Int) X (Kd.C_below hC hX) hc (TB.below hT hX) (by unfold ast_Size.f; rw [node_eta]; exact if_pos (by omega))).mono ?_
  rintro e X' ⟨he, hb⟩
  exact ⟨he, h.below hb⟩
def scribelaw12_AstLeft.f (k : Nat) (l0 : List APart) (a1 : Int) : Option Bool := some true
theorem AstLeft_ev (l0 : List APart) (a1 : Int) (_w1 : (Lit.int .i64 a1).wf = true) : Ev (fun k => scribelaw12_AstLeft.f k l0 a1) true := Ev.now _
set_option maxRecDepth 100000 in
set_option maxHeartbeats 8000000 in
theorem scribelaw12_AstLeft.calls (k : Nat) (A0 : Option Addr) (c0 : Nat) (l0 : List APart) (a1 : Int) (r : Bool) (w : World) (hr0 : Kd.C k42 w A0 l0.length l0) (hc0 : l0.length ≤ c0) (hT : TB w) (h : scribelaw12_AstLeft.f k l0 a1 = some r) :
    Calls Tryd.prog 3 #[.slice A0 l0.length c0, .int .i64 a1] w fun e w' => e = .returned (.bool r) ∧ Below w.heap.size w w' := by
  obtain rfl : true = r := Option.some.inj h
  clear h
  have hu := Tryd.underlying26
  have hu2 := Tryd.underlying29
  have hsz := treeP_size l0
  have HG := Lib.hid (fun W (hb : Below w.heap.size w W) => Grow_tree A0 c0 l0 W (Kd.C_below hr0 hb) hc0 (TB.below hT hb))
  have hT := Lib.hid hT
  generalize treeP l0 = n at HG hsz
  refine (callsIn_wide (n := 9)).1 ?_
  refine callsIn_of_wp_marks Tryd.func3 rfl trivial ?_ rfl
  simp only [Tryd.ntmps3, List.size_toArray, List.length_cons, List.length_nil, Nat.reduceAdd, Nat.reduceSub, Array.replicate_succ, Array.replicate_zero, List.push_toArray, List.append_toArray, List.nil_append, List.cons_append]
  gi_wp2_with (first
    | (refine ⟨trivial, ?_⟩; gi_at_call 8; refine (callsIn_wide.2 (scribelaw12_awake.calls true _ (TB.below hT.out ((Below.refl _ _).alloc (Nat.le_refl _) _)) awake12_ev)).mono ?_; rintro e w1 ⟨rfl, hb1⟩; have HB1 := Lib.hid (((Below.refl w.heap.size w).alloc (Nat.le_refl _) (.cells #[.int .i64 a1] 3)).trans (hb1.mono (by simp))); have HX1 := Lib.hid ((hb1.block w.heap.size (by simp)).trans (heap_alloc_new w (.cells #[.int .i64 a1] 3))); clear hb1)
    | (refine ⟨trivial, ?_⟩; gi_at_call 9; refine (callsIn_wide.2 (HG.out _ HB1.out)).mono ?_; rintro e w2 ⟨A, c, A', c', rfl, h1, h2, h3, h4, hb2⟩; have HB2 := Lib.hid (HB1.out.trans (hb2.mono HB1.out.size)); have HX2 := Lib.hid ((hb2.block w.heap.size (Array.getElem?_eq_some_iff.1 HX1.out).1).trans HX1.out); have HC := Lib.hid h2; clear hb2 h4 h3 h2))
  obtain ⟨W1, hW1⟩ : ∃ W1, (w2.alloc (.cells #[.string n.f0, .string n.f1, .int .i64 n.f2, .slice A n.f3.length c] 26)).alloc (.cells #[.string n.f0, .string n.f1, .int .i64 n.f2, .slice A' (tlL n.f3).length c'] 29) = W1 := ⟨_, rfl⟩
  have hs1 : W1.heap.size = w2.heap.size + 2 := by rw [← hW1]; simp
  have hb21 : Below w2.heap.size w2 W1 := by rw [← hW1]; exact ((Below.refl _ _).alloc (Nat.le_refl _) _).alloc (by simp) _
  have hC1 : Kd.C k26 W1 A n.f3.length n.f3 := Kd.C_below HC.out hb21
  have hw1 : Below w.heap.size w W1 := HB2.out.trans (hb21.mono HB2.out.size)
  have hws := HB2.out.size
  have hm1 : W1.heap[w.heap.size]? = some (.cells #[.int .i64 a1] 3 (0, 0)) := (hb21.block _ (Array.getElem?_eq_some_iff.1 HX2.out).1).trans HX2.out
  have hwl := (Array.getElem?_eq_some_iff.1 HX2.out).1
  have hn1 : W1.heap[w2.heap.size]? = some (.cells #[.string n.f0, .string n.f1, .int .i64 n.f2, .slice A n.f3.length c] 26 (0, 0)) := by
    rw [← hW1]
    exact (Below.heap_alloc _ _ _ (by simp)).trans (heap_alloc_new w2 _)
  rw [hW1]
  clear hW1 HC HB1 HX1 HG
  refine wpIn_loop (fun a wr => ∃ (t : Nat) (Ds : List Nat) (u8 u16 u17 u18 u19 u20 u21 u22 u23 u24 u25 u26 u27 u28 u29 u30 u31 u32 u33 u34 u35 : Value), t ≤ 2 ∧ Marks W1.heap.size Ds wr ∧ Below W1.heap.size W1 wr ∧
      a = { tmps := #[.slice A0 l0.length c0, .int .i64 a1, undef, .pointer (some ⟨w.heap.size, 0, none⟩), .bool false, .pointer (some ⟨w2.heap.size, 0, none⟩), .pointer (some ⟨w2.heap.size + 1, 0, none⟩), .int .i64 (t : Int), u8, .bool true, .bool false,
        .tuple #[.agg #[.string n.f0, .string n.f1, .int .i64 n.f2, .slice A n.f3.length c], .agg #[.string n.f0, .string n.f1, .int .i64 n.f2, .slice A' (tlL n.f3).length c']], .slice A0 l0.length c0,
        .tuple #[.agg #[.string n.f0, .string n.f1, .int .i64 n.f2, .slice A n.f3.length c], .agg #[.string n.f0, .string n.f1, .int .i64 n.f2, .slice A' (tlL n.f3).length c']],
        .agg #[.string n.f0, .string n.f1, .int .i64 n.f2, .slice A n.f3.length c], .agg #[.string n.f0, .string n.f1, .int .i64 n.f2, .slice A' (tlL n.f3).length c'],
        u16, u17, u18, u19, u20, u21, u22, u23, u24, u25, u26, u27, u28, u29, u30, u31, u32, u33, u34, u35, undef], defers := marks Ds })
    (fun a _ => 2 - (intOf (a.tmps.getD 7 undef)).toNat) ?start ?round
  case start => exact ⟨0, [], _, _, _, _, _, _, _, _, _, _, _, _, _, _, _, _, _, _, _, _, _, by omega, Marks.nil _ _, Below.refl _ _, rfl⟩
  case round =>
    rintro a wr ⟨t, Ds, u8, u16, u17, u18, u19, u20, u21, u22, u23, u24, u25, u26, u27, u28, u29, u30, u31, u32, u33, u34, u35, ht, hM, hBr, rfl⟩
    have hsr := hBr.size
    by_cases ht2 : t < 2
    · have hdc : decide ((t : Int) < 2) = true := decide_eq_true (by omega)
      have hnr := (hBr.block _ (by omega)).trans hn1
      have hmr := (hBr.block _ (by omega)).trans hm1
      obtain ⟨gk, hgk⟩ : ∃ gk, wr.heap.size = gk := ⟨_, rfl⟩
      have hna := (Below.heap_alloc wr (.cells #[.int .i64 0] 3) _ (by omega)).trans hnr
      have c0' : (wr.alloc (.cells #[.int .i64 0] 3)).cell? ⟨w2.heap.size, 0, none⟩ = some (.string n.f0) := (blk_cell hna 0).trans rfl
      have c1' : (wr.alloc (.cells #[.int .i64 0] 3)).cell? ⟨w2.heap.size, 1, none⟩ = some (.string n.f1) := (blk_cell hna 1).trans rfl
      have c2' : (wr.alloc (.cells #[.int .i64 0] 3)).cell? ⟨w2.heap.size, 2, none⟩ = some (.int .i64 n.f2) := (blk_cell hna 2).trans rfl
      have c3' : (wr.alloc (.cells #[.int .i64 0] 3)).cell? ⟨w2.heap.size, 3, none⟩ = some (.slice A n.f3.length c) := (blk_cell hna 3).trans rfl
      have HNR := Lib.hid hnr
      have HMR := Lib.hid hmr
      clear hna hnr hmr
      gi_wp2_with (refine ⟨trivial, ?_⟩; gi_at_call 10; refine (ast_All_in Fence.wide _ trivial rfl _ _ _ _ _ _ _).mono ?_; rintro e w' ⟨rfl, rfl⟩)
      obtain ⟨x, hx⟩ : ∃ x : AElW (fun _ => True) W1, x = ⟨⟨0, n, A, c⟩, ⟨h1, hC1, by simp, by simp⟩, trivial⟩ := ⟨_, rfl⟩
      obtain ⟨Wl, hWl⟩ : ∃ Wl, (wr.alloc (.cells #[.int .i64 0] 3)).alloc (.cells #[.string n.f0, .string n.f1, .int .i64 n.f2, .slice A n.f3.length c] 26) = Wl := ⟨_, rfl⟩
      have hszl : Wl.heap.size = gk + 2 := by rw [← hWl]; simp; omega
      have hbl : Below wr.heap.size wr Wl := by rw [← hWl]; exact ((Below.refl _ _).alloc (Nat.le_refl _) _).alloc (by simp) _
      have hbx : Boxed Wl gk 3 (.int .i64 0) := by
        rw [← hWl, ← hgk]
        exact (Boxed.new wr 3 (.int .i64 0)).alloc _
      have hbn : Wl.heap[gk + 1]? = some (.cells #[.string n.f0, .string n.f1, .int .i64 n.f2, .slice A n.f3.length c] 26 (0, 0)) := by
        rw [← hWl, ← hgk]
        have := heap_alloc_new (wr.alloc (.cells #[.int .i64 0] 3)) (.cells #[.string n.f0, .string n.f1, .int .i64 n.f2, .slice A n.f3.length c] 26)
        rwa [World.size_alloc] at this
      rw [hWl]
      clear hWl c0' c1' c2' c3'
      have hbl2 : Below W1.heap.size W1 Wl := hBr.trans (hbl.mono hsr)
      have hstop := all_stops (fun _ => True) (fun _ _ _ _ => trivial) Fence.wide rfl 8 trivial trivial rfl (gk + 1) W1 Wl (fun k => k = gk) (by rintro k rfl; omega) hbl2 x (by rw [hx]) (by rw [hx]; have : (allT 0 n).length ≤ 1073741824 := hsz; simp only; omega) (by omega) (by rw [hx]; exact hbn)
      have hxn : allT 0 x.1.n = allT 0 n := by rw [hx]
      rw [hxn] at hstop
      have hMl : Marks W1.heap.size Ds Wl := hM.below hbl
      refine wpIn_rangeFunc_ownF rfl (by omega) (gf := 23) (lb := #[.pointer (some ⟨gk + 1, 0, none⟩)]) rfl trivial (enters_of Tryd.func23 (by kernel_rfl) rfl)
        hstop (fun h k => h.trans k) (KpM.book (by omega)) (Below.refl _ _) (fun _ => rfl)
        (fun pre W => (Boxed W gk 3 (.int .i64 (pre.length : Int)) ∧ (pre.length : Int) ≤ max a1 0) ∧ Below wr.heap.size wr W)
        (fun c pre W => ((c = .exit 2 ∧ max a1 0 < (sizeT n : Int)) ∧ Boxed W gk 3 (.int .i64 (max a1 0))) ∧ Below wr.heap.size wr W)
        (OwnFrom.and (OwnFrom.and (Own.from (boxed_own _ _ _) _) (fun s A B row hs _ _ => hs)) (ownFrom_below (Nat.le_refl _) (by omega)))
        (fun c => OwnFrom.and (OwnFrom.and (fun s A B row hs _ _ => hs) (Own.from (boxed_own _ _ _) _)) (ownFrom_below (Nat.le_refl _) (by omega)))
        ⟨⟨hbx, by simp; omega⟩, hbl⟩
        (fun y => { tmps := #[.slice A0 l0.length c0, .int .i64 a1, undef, .pointer (some ⟨w.heap.size, 0, none⟩), .bool false, .pointer (some ⟨w2.heap.size, 0, none⟩), .pointer (some ⟨w2.heap.size + 1, 0, none⟩), .int .i64 (t : Int), .pointer (some ⟨gk, 0, none⟩), .bool true, .bool false,
          .tuple #[.agg #[.string n.f0, .string n.f1, .int .i64 n.f2, .slice A n.f3.length c], .agg #[.string n.f0, .string n.f1, .int .i64 n.f2, .slice A' (tlL n.f3).length c']], .slice A0 l0.length c0,
          .tuple #[.agg #[.string n.f0, .string n.f1, .int .i64 n.f2, .slice A n.f3.length c], .agg #[.string n.f0, .string n.f1, .int .i64 n.f2, .slice A' (tlL n.f3).length c']],
          .agg #[.string n.f0, .string n.f1, .int .i64 n.f2, .slice A n.f3.length c], .agg #[.string n.f0, .string n.f1, .int .i64 n.f2, .slice A' (tlL n.f3).length c'],
          .int .i64 (t : Int), .bool true, u18, u19, .agg #[.string n.f0, .string n.f1, .int .i64 n.f2, .slice A n.f3.length c], .func (.func 23) #[] #[.pointer (some ⟨gk + 1, 0, none⟩)],
          .int .i64 y.1.d, y.1.val, u24, u25, u26, u27, u28, u29, u30, u31, u32, u33, u34, u35, undef], defers := [] }) ?assign ?body ?done ?stop
      case assign =>
        intro l y W K hK
        gi_wp2
        simpa [AElW.enc] using hK
      case body =>
        rintro l pre y W ⟨⟨hb, hp⟩, hB⟩ hl
        have hl' : (pre.length : Int) < sizeT n := by have : pre.length < (allT 0 n).length := hl; unfold sizeT; omega
        have hc := hb.cell
        have hf := hb.frozen
        have hmw : W.cell? ⟨w.heap.size, 0, none⟩ = some (.int .i64 a1) := (blk_cell ((hB.block _ (by omega)).trans HMR.out) 0).trans rfl
        by_cases hge : a1 ≤ (pre.length : Int)
        · have e1 : decide ((pre.length : Int) ≥ a1) = true := decide_eq_true hge
          have e2 : decide (a1 ≤ (pre.length : Int)) = true := decide_eq_true hge
          have hmx : (pre.length : Int) = max a1 0 := by omega
          rw [hmx] at hb hl'
          have hbh := Lib.hid hb
          clear hp hge hmx hb
          gi_wp2
          exact ⟨KeepsOthers.refl _, ⟨rfl, hbh.out⟩, by rw [hgk] at hB; exact hB⟩
        · have e1 : decide ((pre.length : Int) ≥ a1) = false := decide_eq_false hge
          have e2 : decide (a1 ≤ (pre.length : Int)) = false := decide_eq_false hge
          gi_wp2
          refine ⟨KeepsOthers.setCell _ _ _, ?_, ⟨?_, ?_⟩, ?_⟩
          · have h := KpM.set (n₀ := W1.heap.size) (M := fun k => k = gk) (W := W) (p := ⟨gk, 0, none⟩) (by simp only; omega) rfl (.int .i64 ((pre.length : Int) + 1))
            rwa [hs1] at h
          · rw [show ((pre ++ [y]).length : Int) = (pre.length : Int) + 1 by simp]
            exact hb.set _
          · rw [show ((pre ++ [y]).length : Int) = (pre.length : Int) + 1 by simp]
            omega
          · have h := hB.setCell (p := ⟨gk, 0, none⟩) (by simp only; omega) (.int .i64 ((pre.length : Int) + 1))
            rwa [hgk] at h
      case done =>
        rintro D ys W hD hys ⟨⟨hb, hp⟩, hB⟩ hK
        have hl := sizeT_told hys
        rw [hl] at hb hp
        have hne : ((sizeT n : Int) != min (max a1 0) (sizeT n : Int)) = false := by simp; omega
        have hW1 : Below W1.heap.size W1 W := hBr.trans (hB.mono hsr)
        have hnW := (hB.block _ (by omega)).trans HNR.out
        have d0 : W.cell? ⟨w2.heap.size, 0, none⟩ = some (.string n.f0) := (blk_cell hnW 0).trans rfl
        have d1 : W.cell? ⟨w2.heap.size, 1, none⟩ = some (.string n.f1) := (blk_cell hnW 1).trans rfl
        have d2 : W.cell? ⟨w2.heap.size, 2, none⟩ = some (.int .i64 n.f2) := (blk_cell hnW 2).trans rfl
        have d3 : W.cell? ⟨w2.heap.size, 3, none⟩ = some (.slice A n.f3.length c) := (blk_cell hnW 3).trans rfl
        have dm : W.cell? ⟨w.heap.size, 0, none⟩ = some (.int .i64 a1) := (blk_cell ((hB.block _ (by omega)).trans HMR.out) 0).trans rfl
        have db := hb.cell
        have HSZ := Lib.hid (left_size gk w.heap.size w2.heap.size n A c a1 (sizeT n : Int) W1 W h1 hC1 hW1 (TB.below hT.out hw1) hsz)
        have HM := Lib.hid (Marks.below hM hB)
        have HD : Hid (D ∉ Ds) := Lib.hid (fun h => by have := (Array.getElem?_eq_some_iff.1 (hM.live D h)).1; omega)
        have HKK := Lib.hid hK
        have HW1 := Lib.hid hW1
        clear hnW hK hW1 hbl hbl2 hMl
        gi_wp2
        refine wpIn_wide.2 ?_
        go_region_held3 (fun X : World => X.cell? ⟨gk, 0, none⟩ = some (.int .i64 (sizeT n : Int)) ∧ X.cell? ⟨w.heap.size, 0, none⟩ = some (.int .i64 a1) ∧ X.cell? ⟨w2.heap.size, 0, none⟩ = some (.string n.f0) ∧ X.cell? ⟨w2.heap.size, 1, none⟩ = some (.string n.f1) ∧ X.cell? ⟨w2.heap.size, 2, none⟩ = some (.int .i64 n.f2) ∧ X.cell? ⟨w2.heap.size, 3, none⟩ = some (.slice A n.f3.length c) ∧ Below W.heap.size W X) (first | exact hS9 | exact ⟨db, dm, d0, d1, d2, d3, ⟨rfl, rfl, rfl, Nat.le_refl _, fun _ _ => rfl⟩⟩ | go_keep) (first | (go_at_call 11; (with_reducible refine (HSZ.out _ (by unfold LeftS; assumption)).mono ?_); rintro e w5 ⟨rfl, hS9⟩))
        all_goals
          have hB5 := hS9.2.2.2.2.2.2
          have HS9 := Lib.hid hS9
          clear hS9
          gi_wp2
          refine ⟨⟨t + 1, D :: Ds, _, _, _, _, _, _, _, _, _, _, _, _, _, _, _, _, _, _, _, _, _, by omega, ?_, ?_, rfl⟩, ?_⟩
          · exact ⟨fun E hE => by
              rcases List.mem_cons.1 hE with rfl | hE
              · exact (hB5.block _ (Array.getElem?_eq_some_iff.1 HKK.out).1).trans HKK.out
              · exact (Marks.below HM.out hB5).live E hE, fun E hE => by
              rcases List.mem_cons.1 hE with rfl | hE
              · omega
              · exact HM.out.up E hE, List.nodup_cons.2 ⟨HD.out, HM.out.nodup⟩⟩
          · exact HW1.out.trans (hB5.mono HW1.out.size)
          · simp [intOf]; omega
      case stop =>
        rintro D c' pre W hD hpre ⟨⟨⟨rfl, hp⟩, hb⟩, hB⟩ hK
        have hne : (max a1 0 != min (max a1 0) (sizeT n : Int)) = false := by simp; omega
        have hW1 : Below W1.heap.size W1 W := hBr.trans (hB.mono hsr)
        have hnW := (hB.block _ (by omega)).trans HNR.out
        have d0 : W.cell? ⟨w2.heap.size, 0, none⟩ = some (.string n.f0) := (blk_cell hnW 0).trans rfl
        have d1 : W.cell? ⟨w2.heap.size, 1, none⟩ = some (.string n.f1) := (blk_cell hnW 1).trans rfl
        have d2 : W.cell? ⟨w2.heap.size, 2, none⟩ = some (.int .i64 n.f2) := (blk_cell hnW 2).trans rfl
        have d3 : W.cell? ⟨w2.heap.size, 3, none⟩ = some (.slice A n.f3.length c) := (blk_cell hnW 3).trans rfl
        have dm : W.cell? ⟨w.heap.size, 0, none⟩ = some (.int .i64 a1) := (blk_cell ((hB.block _ (by omega)).trans HMR.out) 0).trans rfl
        have db := hb.cell
        have HSZ := Lib.hid (left_size gk w.heap.size w2.heap.size n A c a1 (max a1 0) W1 W h1 hC1 hW1 (TB.below hT.out hw1) hsz)
        have HM := Lib.hid (Marks.below hM hB)
        have HD : Hid (D ∉ Ds) := Lib.hid (fun h => by have := (Array.getElem?_eq_some_iff.1 (hM.live D h)).1; omega)
        have HKK := Lib.hid hK
        have HW1 := Lib.hid hW1
        clear hnW hK hW1 hbl hbl2 hMl
        gi_wp2
        refine wpIn_wide.2 ?_
        go_region_held3 (fun X : World => X.cell? ⟨gk, 0, none⟩ = some (.int .i64 (max a1 0)) ∧ X.cell? ⟨w.heap.size, 0, none⟩ = some (.int .i64 a1) ∧ X.cell? ⟨w2.heap.size, 0, none⟩ = some (.string n.f0) ∧ X.cell? ⟨w2.heap.size, 1, none⟩ = some (.string n.f1) ∧ X.cell? ⟨w2.heap.size, 2, none⟩ = some (.int .i64 n.f2) ∧ X.cell? ⟨w2.heap.size, 3, none⟩ = some (.slice A n.f3.length c) ∧ Below W.heap.size W X) (first | exact hS9 | exact ⟨db, dm, d0, d1, d2, d3, ⟨rfl, rfl, rfl, Nat.le_refl _, fun _ _ => rfl⟩⟩ | go_keep) (first | (go_at_call 11; (with_reducible refine (HSZ.out _ (by unfold LeftS; assumption)).mono ?_); rintro e w5 ⟨rfl, hS9⟩))
        all_goals
          have hB5 := hS9.2.2.2.2.2.2
          have HS9 := Lib.hid hS9
          clear hS9
          gi_wp2
          refine ⟨⟨t + 1, D :: Ds, _, _, _, _, _, _, _, _, _, _, _, _, _, _, _, _, _, _, _, _, _, by omega, ?_, ?_, rfl⟩, ?_⟩
          · exact ⟨fun E hE => by
              rcases List.mem_cons.1 hE with rfl | hE
              · exact (hB5.block _ (Array.getElem?_eq_some_iff.1 HKK.out).1).trans HKK.out
              · exact (Marks.below HM.out hB5).live E hE, fun E hE => by
              rcases List.mem_cons.1 hE with rfl | hE
              · omega
              · exact HM.out.up E hE, List.nodup_cons.2 ⟨HD.out, HM.out.nodup⟩⟩
          · exact HW1.out.trans (hB5.mono HW1.out.size)
          · simp [intOf]; omega
    · obtain rfl : t = 2 := by omega
      have hdc : decide (((2 : Nat) : Int) < 2) = false := rfl
      have HA := Lib.hid (fun X (hb : Below wr.heap.size wr X) => scribelaw12_awake.calls true X (TB.below hT.out (hw1.trans ((hBr.trans (hb.mono hsr)).mono hw1.size))) awake12_ev)
      gi_wp2_with (refine ⟨trivial, ?_⟩; gi_at_call 8; refine (callsIn_wide.2 (HA.out _ (Below.refl _ _))).mono ?_; rintro e w6 ⟨rfl, hb6⟩)
      refine leaves_marks W1.heap.size Ds _ (hM.below hb6) (Nat.le_trans hsr hb6.size) (fun W' hW' => ?_)
      exact ⟨_, results_tmp rfl _ _ _, rfl, hw1.trans ((hBr.trans ((hb6.mono hsr).trans hW')).mono hw1.size)⟩
end Go.Proofs.YtgkojnpbgkglgaaDoor.Pr
