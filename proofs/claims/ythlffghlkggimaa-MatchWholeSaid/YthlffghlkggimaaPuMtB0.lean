/- match: a pattern's states while they are laid; add. -/
import Derived.Test.YthlffghlkggimaaPuMtS
import Derived.RegionTactic
import Derived.WalkMore
import Derived.WalkSpells
import Derived.OwnWalk
import Derived.Lib.Hide
import Derived.LoopTactic
import Derived.Deep.QuietTactic
import Derived.BigQuiet
set_option linter.unusedVariables false
set_option linter.unusedSimpArgs false
namespace Go.Proofs.Ythlffghlkggimaa.Pr
open Go Go.RowKit Go.Proofs.YthlffghlkggimaaW.PrintWords Go.Proofs.YthlffghlkggimaaW.PrintLast Go.Proofs.YthlffghlkggimaaW.PrintMore
abbrev kMS := k68
structure KB (w W : World) (g : Nat) : Prop where
 size : w.heap.size ≤ W.heap.size
 keep : ∀ k, k < w.heap.size → k ≠ g → (∀ cs fr, w.heap[k]? ≠ some (.cells cs 68 fr)) → W.heap[k]? = w.heap[k]?
theorem KB.refl (w : World) (g : Nat) : KB w w g := ⟨Nat.le_refl _, fun _ _ _ _ => rfl⟩
theorem KB.trans {w W W1 : World} {g : Nat} (h : KB w W g) (h' : KB W W1 g) : KB w W1 g :=
 ⟨Nat.le_trans h.size h'.size, fun k hk hg ht => by
  have e := h.keep k hk hg ht
  exact (h'.keep k (Nat.lt_of_lt_of_le hk h.size) hg (fun cs fr => by rw [e]; exact ht cs fr)).trans e⟩
theorem KB.blk {w W : World} {g k : Nat} {cs : Array Value} {t : TypeId} {fr : Nat × Nat} (h : KB w W g) (hb : w.heap[k]? = some (.cells cs t fr)) (hg : k ≠ g) (ht : t ≠ 68) : W.heap[k]? = some (.cells cs t fr) :=
 (h.keep k (blk_lt hb) hg (fun cs' fr' e => by rw [hb] at e; injection e with e; injection e with _ e _; exact ht e)).trans hb
theorem KB.of_below {w W : World} {g : Nat} (h : Below w.heap.size w W) : KB w W g := ⟨h.size, fun k hk _ _ => h.block k hk⟩
theorem KB.alloc {w W : World} {g : Nat} (h : KB w W g) (o : Obj) : KB w (W.alloc o) g := h.trans (KB.of_below ((Below.refl _ _).alloc (Nat.le_refl _) _))
theorem KB.set {w W : World} {g : Nat} (h : KB w W g) (j : Nat) (u : Value) : KB w (W.setCell ⟨g, j, none⟩ u) g :=
 h.trans ⟨by simp [World.setCell], fun k _ hg _ => Below.heap_setCell _ _ _ _ hg⟩
theorem KB.grown {w W W1 : World} {g : Nat} {row : Option Nat} (h : KB w W g) (hw : W.grownBy W1 row) (hr : ∀ k, row = some k → ∃ cs fr, W.heap[k]? = some (.cells cs 68 fr)) : KB w W1 g :=
 h.trans ⟨hw.size, fun k hk _ ht => hw.block k hk (fun e => by obtain ⟨cs, fr, hc⟩ := hr k e.symm; exact ht cs fr hc)⟩
structure PX (w0 W : World) (g : Nat) (l : List MSt) (st : Int) : Prop where
 ex : ∃ v, W.heap[g]? = some (.cells #[v, .int .i64 st] 66 (0, 0)) ∧ Kd.R kMS 68 W w0.heap.size (fun _ => True) v l
 ge : w0.heap.size ≤ g
 bel : Below w0.heap.size w0 W
section
variable {w0 W W1 : World} {g : Nat} {l : List MSt} {st : Int}
theorem PX.lt (h : PX w0 W g l st) : g < W.heap.size := by
 obtain ⟨v, hb, _⟩ := h.ex
 exact blk_lt hb
theorem PX.below (h : PX w0 W g l st) (hb : Below W.heap.size W W1) : PX w0 W1 g l st := by
 have hlt := h.lt
 obtain ⟨⟨v, h1, h2⟩, h3, h4⟩ := h
 exact ⟨⟨v, (hb.block g hlt).trans h1, Kd.R_below h2 hb⟩, h3, h4.trans (hb.mono (by omega))⟩
theorem PX.alloc (h : PX w0 W g l st) (o : Obj) : PX w0 (W.alloc o) g l st := h.below (below_alloc (Below.refl _ _) o)
theorem PX.drewN (h : PX w0 W g l st) (n : Nat) : PX w0 (W.drewN n) g l st := by
 obtain ⟨⟨v, h1, h2⟩, h3, h4⟩ := h
 exact ⟨⟨v, h1, Kd.R_drewN h2 n⟩, h3, pw_below_drewN h4 n⟩
theorem PX.drew (h : PX w0 W g l st) : PX w0 W.drew g l st := by
 obtain ⟨⟨v, h1, h2⟩, h3, h4⟩ := h
 exact ⟨⟨v, h1, Kd.R_drew h2⟩, h3, below_drew1 h4⟩
theorem PX.begin (h : PX w0 W g l st) (q : Int) : PX w0 (W.setCell ⟨g, 1, none⟩ (.int .i64 q)) g l q := by
 obtain ⟨⟨v, h1, h2⟩, h3, h4⟩ := h
 refine ⟨⟨v, ?_, Kd.R_set h2 h1 (by decide) 1 _⟩, h3, h4.setCell (p := ⟨g, 1, none⟩) h3 _⟩
 simpa using blk_set h1 1 (.int .i64 q)
end
theorem infoMS : (Try.prog.info? 68).map (fun i => (i.zero, i.size, i.bytes)) = some (some (.agg #[.int .i64 0, .int .u64 0, .int .u64 0, .int .u64 0, .int .u64 0, .int .i64 0, .int .i64 0]), 7, 56) := by kernel_rfl
abbrev stAgg (x : MSt) : Value := .agg #[.int .i64 x.f0, .int .u64 x.f1.f0, .int .u64 x.f1.f1, .int .u64 x.f1.f2, .int .u64 x.f1.f3, .int .i64 x.f2, .int .i64 x.f3]
theorem made_ {P : Program} {ops : Array Oper} {Q : Exit → Act → World → Prop} {oi : Oper} {N : Option Tmp} {a : Act} {v : Value} {w w1 : World} {K : Act → World → Prop} (hw : Region.wanted oi (yielded ops a.tmps) = true) (hN : oi.dst = N) (hrun : (execOp a.eval oi).run P w = .ok (.value v) w1) (h : K (a.put N v) w1) :
  if Region.wanted oi (yielded ops a.tmps) = true then Oper.wp P oi a w K Q else K (a.put N undef) w := by
 subst hN
 rw [if_pos hw]
 unfold Oper.wp
 rw [hrun]
 exact h
def AS (g gb : Nat) (v : Value) (x : MSt) (X : World) : Prop :=
 X.cell? ⟨g, 0, none⟩ = some v ∧ X.cell? ⟨gb, 0, none⟩ = some (.int .i64 x.f0) ∧ X.cell? ⟨gb, 1, none⟩ = some (.int .u64 x.f1.f0) ∧ X.cell? ⟨gb, 2, none⟩ = some (.int .u64 x.f1.f1) ∧ X.cell? ⟨gb, 3, none⟩ = some (.int .u64 x.f1.f2) ∧ X.cell? ⟨gb, 4, none⟩ = some (.int .u64 x.f1.f3) ∧ X.cell? ⟨gb, 5, none⟩ = some (.int .i64 x.f2) ∧ X.cell? ⟨gb, 6, none⟩ = some (.int .i64 x.f3)
theorem AS.below {g gb : Nat} {v : Value} {x : MSt} {X Y : World} (h : AS g gb v x X) (hb : Below X.heap.size X Y) : AS g gb v x Y := by
 obtain ⟨h0, h1, h2, h3, h4, h5, h6, h7⟩ := h
 exact ⟨(hb.cell (World.block_lt_of_cell? _ _ h0)).trans h0, (hb.cell (World.block_lt_of_cell? _ _ h1)).trans h1, (hb.cell (World.block_lt_of_cell? _ _ h2)).trans h2, (hb.cell (World.block_lt_of_cell? _ _ h3)).trans h3, (hb.cell (World.block_lt_of_cell? _ _ h4)).trans h4, (hb.cell (World.block_lt_of_cell? _ _ h5)).trans h5, (hb.cell (World.block_lt_of_cell? _ _ h6)).trans h6, (hb.cell (World.block_lt_of_cell? _ _ h7)).trans h7⟩
set_option maxHeartbeats 2000000 in
set_option maxRecDepth 100000 in
theorem match_add (g : Nat) (l : List MSt) (st : Int) (x : MSt) (w0 w : World) (h : PX w0 w g l st) (hl : l.length ≤ 1000000) :
  Calls Try.prog 37 #[.pointer (some ⟨g, 0, none⟩), stAgg x] w fun e w' => e = .returned (.int .i64 (l.length : Int)) ∧ PX w0 w' g (l ++ [x]) st ∧ KB w w' g := by
 have hLt := h.lt
 obtain ⟨⟨v, hb0, hR0⟩, hge, hB0⟩ := h
 have hu := Try.underlying66
 have hut := Try.underlying68
 have hus := Try.underlying49
 obtain ⟨A, c, rfl⟩ := Kd.R_slice hR0
 obtain ⟨Wb, hWb⟩ : ∃ Wb, w.alloc (.cells #[.int .i64 x.f0, .int .u64 x.f1.f0, .int .u64 x.f1.f1, .int .u64 x.f1.f2, .int .u64 x.f1.f3, .int .i64 x.f2, .int .i64 x.f3] 68) = Wb := ⟨_, rfl⟩
 have hbb : Below w.heap.size w Wb := by rw [← hWb]; exact (Below.refl _ _).alloc (Nat.le_refl _) _
 have hsb := hbb.size
 have hb : Wb.heap[g]? = some (.cells #[.slice A l.length c, .int .i64 st] 66 (0, 0)) := (hbb.block g hLt).trans hb0
 have hR : Kd.R kMS 68 Wb w0.heap.size (fun _ => True) (.slice A l.length c) l := Kd.R_below hR0 hbb
 have hB : Below w0.heap.size w0 Wb := hB0.trans (hbb.mono (by omega))
 have hbx : Wb.heap[w.heap.size]? = some (.cells #[.int .i64 x.f0, .int .u64 x.f1.f0, .int .u64 x.f1.f1, .int .u64 x.f1.f2, .int .u64 x.f1.f3, .int .i64 x.f2, .int .i64 x.f3] 68 (0, 0)) := by rw [← hWb]; exact heap_alloc_new w _
 have c2 : Wb.cell? ⟨g, 0, none⟩ = some (.slice A l.length c) := (blk_cell hb 0).trans rfl
 have x0 := (blk_cell hbx 0).trans rfl
 have x1 := (blk_cell hbx 1).trans rfl
 have x2 := (blk_cell hbx 2).trans rfl
 have x3 := (blk_cell hbx 3).trans rfl
 have x4 := (blk_cell hbx 4).trans rfl
 have x5 := (blk_cell hbx 5).trans rfl
 have x6 := (blk_cell hbx 6).trans rfl
 have HLN : Hid ((l ++ [x]).length = l.length + 1) := Lib.hid (by simp)
 have HS0 : Hid (AS g w.heap.size (.slice A l.length c) x Wb.drew) := Lib.hid ⟨c2, x0, x1, x2, x3, x4, x5, x6⟩
 have HLT : Hid (∀ k, (Value.slice A l.length c).ownBlock = some k → k < w.heap.size) := Lib.hid (Kd.R_lt hR0)
 have Hbx := Lib.hid hbx
 have HR := Lib.hid hR
 have HB := Lib.hid hB
 have HBB := Lib.hid hbb
 have Hb := Lib.hid hb
 clear hR hB hb0 hR0 hB0 hbb hb hbx
 go_enter Try.func37, Try.ntmps37
 go_wp2
 (try rw [hWb])
 refine start_ (n := 11) (S := AS g w.heap.size (.slice A l.length c) x) (ds := [10]) #[ff,ff,ff,ff,ff,ff,ff,ff,ff,ff,ff] (by kernel_rfl) rfl rfl HS0.out (fun hHeld => ?_)
 refine pure_ (i := 0) (N := some 5) (v := ?_) (a' := ?_) #[tt,ff,ff,ff,ff,ff,ff,ff,ff,ff,ff] rfl rfl (by kernel_rfl) (fun _ _ _ h => h) (Or.inl ⟨by rfl, ?_⟩) ?_ ?_
 rotate_left
 ·intro w'
  go_simp
  with_reducible rfl
 rotate_left
 ·simp only [Act.put, setA, setZ, setS, i64_w, i32_w]
  rfl
 refine pure_ (i := 1) (N := some 6) (v := ?_) (a' := ?_) #[tt,tt,ff,ff,ff,ff,ff,ff,ff,ff,ff] rfl rfl (by kernel_rfl) (fun _ _ _ h => h) (Or.inl ⟨by rfl, ?_⟩) ?_ ?_
 rotate_left
 ·intro w'
  go_simp
  with_reducible rfl
 rotate_left
 ·simp only [Act.put, setA, setZ, setS, i64_w, i32_w]
  rfl
 refine pure_ (i := 2) (N := some 7) (v := ?_) (a' := ?_) #[tt,tt,tt,ff,ff,ff,ff,ff,ff,ff,ff] rfl rfl (by kernel_rfl) (fun _ _ _ h => h) (Or.inl ⟨by rfl, ?_⟩) ?_ ?_
 rotate_left
 ·intro w'
  go_simp
  with_reducible rfl
 rotate_left
 ·simp only [Act.put, setA, setZ, setS, i64_w, i32_w]
  rfl
 refine pure_ (i := 3) (N := some 8) (v := ?_) (a' := ?_) #[tt,tt,tt,tt,ff,ff,ff,ff,ff,ff,ff] rfl rfl (by kernel_rfl) (fun _ _ _ h => h) (Or.inl ⟨by rfl, ?_⟩) ?_ ?_
 rotate_left
 ·intro w'
  go_simp
  with_reducible rfl
 rotate_left
 ·simp only [Act.put, setA, setZ, setS, i64_w, i32_w]
  rfl
 refine take_ (i := 4) (N := some 9) (v := ?_) (a' := ?_) #[tt,tt,tt,tt,tt,ff,ff,ff,ff,ff,ff] rfl rfl (by kernel_rfl) (fun _ _ _ h => h) (Or.inl ⟨by rfl, ?_⟩) hHeld ?_ ?_
 rotate_left
 ·rintro w' ⟨s0, s1, s2, s3, s4, s5, s6, s7⟩
  go_simp
  with_reducible rfl
 rotate_left
 ·simp only [Act.put, setA, setZ, setS, i64_w, i32_w]
  rfl
 refine take_ (i := 5) (N := some 10) (v := ?_) (a' := ?_) #[tt,tt,tt,tt,tt,tt,ff,ff,ff,ff,ff] rfl rfl (by kernel_rfl) (fun _ _ _ h => h) (Or.inl ⟨by rfl, ?_⟩) hHeld ?_ ?_
 rotate_left
 ·rintro w' ⟨s0, s1, s2, s3, s4, s5, s6, s7⟩
  go_simp
  with_reducible rfl
 rotate_left
 ·simp only [Act.put, setA, setZ, setS, i64_w, i32_w]
  rfl
 refine one_ (i := 6) (N := some 11) #[tt,tt,tt,tt,tt,tt,tt,ff,ff,ff,ff] rfl rfl (by kernel_rfl) (by decide) (fun K hK => ?_)
 refine made_ (w1 := ?_) (v := ?_) (by rfl) rfl ?_ ?_
 rotate_left 2
 ·go_simp
  constructor
  ·rfl
  ·rfl
 refine hK.out _ _ (HS0.out.below ((Below.refl _ _).alloc (Nat.le_refl _) _)) (fun hHeld => ?_)
 clear hK K
 refine norm_ (a' := ?_) ?_ ?_
 rotate_left
 ·show Act.put _ (some 11) _ = _
  simp only [Act.put, setA, setZ, setS, i64_w, i32_w]
  rfl
 refine one_ (i := 7) (N := some 12) #[tt,tt,tt,tt,tt,tt,tt,tt,ff,ff,ff] rfl rfl (by kernel_rfl) (by decide) (fun K hK => ?_)
 refine Kd.R_append_step kMS (w0 := Wb) w0.heap.size (by rfl) (.tmp 9) (.tmp 11) 64 68 (.agg #[.int .i64 0, .int .u64 0, .int .u64 0, .int .u64 0, .int .u64 0, .int .i64 0, .int .i64 0]) 56 rfl Try.underlying64 infoMS rfl (by decide) (by decide) (.slice A l.length c) l x [.int .i64 x.f0, .int .u64 x.f1.f0, .int .u64 x.f1.f1, .int .u64 x.f1.f2, .int .u64 x.f1.f3, .int .i64 x.f2, .int .i64 x.f3] (fun _ => True) (fun k => False) rfl rfl (k68_mkM _ _ _ x) (fun k hk => hk.elim) (fun _ _ => trivial) (Kd.R_drew HR.out) (below_drew1 (Below.refl _ _)) (by show w0.heap.size ≤ Wb.heap.size; omega) (by omega) ?_
 intro v1 w1 hR1 hB1 hg1 _
 obtain ⟨A1, c1, he1⟩ := Kd.R_slice hR1
 rw [HLN.out] at he1
 subst he1
 have hrow : ∀ k, (Value.slice A l.length c).ownBlock = some k → k < w.heap.size ∧ ∃ cs fr, Wb.heap[k]? = some (.cells cs 68 fr) := fun k hk => ⟨HLT.out k hk, by obtain ⟨cs, hc⟩ := Kd.R_typed HR.out k hk; exact ⟨cs, _, hc⟩⟩
 have hbx1 : w1.heap[w.heap.size]? = some (.cells #[.int .i64 x.f0, .int .u64 x.f1.f0, .int .u64 x.f1.f1, .int .u64 x.f1.f2, .int .u64 x.f1.f3, .int .i64 x.f2, .int .i64 x.f3] 68 (0, 0)) := (hg1.block w.heap.size (by show w.heap.size < Wb.heap.size; exact blk_lt Hbx.out) (fun e => by have := (hrow _ e.symm).1; omega)).trans Hbx.out
 have hb1 : w1.heap[g]? = some (.cells #[.slice A l.length c, .int .i64 st] 66 (0, 0)) := (hg1.block g (by show g < Wb.heap.size; omega) (Kd.R_ne HR.out Hb.out (by decide))).trans Hb.out
 have hkb : KB Wb w1 g := KB.grown (KB.refl Wb g) (row := (Value.slice A l.length c).ownBlock) ⟨hg1.os, hg1.tape, hg1.output, hg1.size, fun k hk hne => hg1.block k hk hne⟩ (fun k hk => (hrow k hk).2)
 have HR1 := Lib.hid hR1
 have HB1 := Lib.hid hB1
 have Hb1 := Lib.hid hb1
 have HKB := Lib.hid hkb
 have hS1 : AS g w.heap.size (.slice A l.length c) x w1 := ⟨(blk_cell hb1 0).trans rfl, (blk_cell hbx1 0).trans rfl, (blk_cell hbx1 1).trans rfl, (blk_cell hbx1 2).trans rfl, (blk_cell hbx1 3).trans rfl, (blk_cell hbx1 4).trans rfl, (blk_cell hbx1 5).trans rfl, (blk_cell hbx1 6).trans rfl⟩
 clear hR1 hB1 hg1 hrow hb1 hbx1 hkb
 refine hK.out _ _ hS1 (fun hHeld => ?_)
 clear hS1
 clear hK K
 refine norm_ (a' := ?_) ?_ ?_
 rotate_left
 ·show Act.put _ (some 12) _ = _
  simp only [Act.put, setA, setZ, setS, i64_w, i32_w]
  rfl
 refine pure_ (i := 8) (N := some 13) (v := ?_) (a' := ?_) #[tt,tt,tt,tt,tt,tt,tt,tt,tt,ff,ff] rfl rfl (by kernel_rfl) (fun _ _ _ h => h) (Or.inl ⟨by rfl, ?_⟩) ?_ ?_
 rotate_left
 ·intro w'
  go_simp
  with_reducible rfl
 rotate_left
 ·simp only [Act.put, setA, setZ, setS, i64_w, i32_w]
  rfl
 refine pure_ (i := 9) (N := some 14) (v := ?_) (a' := ?_) #[tt,tt,tt,tt,tt,tt,tt,tt,tt,tt,ff] rfl rfl (by kernel_rfl) (fun _ _ _ h => h) (Or.inl ⟨by rfl, ?_⟩) ?_ ?_
 rotate_left
 ·intro w'
  go_simp
  with_reducible rfl
 rotate_left
 ·simp only [Act.put, setA, setZ, setS, i64_w, i32_w]
  rfl
 refine last_ (i := 10) (N := none) #[tt,tt,tt,tt,tt,tt,tt,tt,tt,tt,tt] rfl rfl (by kernel_rfl) (by decide) (fun K hK => ?_)
 have d0 : w1.cell? ⟨g, 0, none⟩ = some (.slice A l.length c) := (blk_cell Hb1.out 0).trans rfl
 have f0 := blk_frozen Hb1.out 0
 refine skip_ (w1 := ?_) (by rfl) rfl ?_ ?_
 rotate_left
 ·go_simp
  rfl
 refine hK.out _ _ ?_
 clear hK K
 refine done_ (by kernel_rfl) ?_
 have hb2 : (w1.setCell ⟨g, 0, none⟩ (.slice A1 (l.length + 1) c1)).heap[g]? = some (.cells #[.slice A1 (l.length + 1) c1, .int .i64 st] 66 (0, 0)) := by simpa using blk_set Hb1.out 0 (.slice A1 (l.length + 1) c1)
 have hR2 := Kd.R_set HR1.out Hb1.out (by decide) 0 (.slice A1 (l.length + 1) c1)
 have hbel2 : Below w0.heap.size w0 (w1.setCell ⟨g, 0, none⟩ (.slice A1 (l.length + 1) c1)) := (HB.out.trans HB1.out).setCell (p := ⟨g, 0, none⟩) hge _
 have hkb2 : KB w (w1.setCell ⟨g, 0, none⟩ (.slice A1 (l.length + 1) c1)) g := ((KB.of_below HBB.out).trans HKB.out).set 0 _
 have e0 : (w1.setCell ⟨g, 0, none⟩ (.slice A1 (l.length + 1) c1)).cell? ⟨g, 0, none⟩ = some (.slice A1 (l.length + 1) c1) := (blk_cell hb2 0).trans rfl
 generalize w1.setCell ⟨g, 0, none⟩ (.slice A1 (l.length + 1) c1) = W2 at hb2 hR2 hbel2 hkb2 e0 ⊢
 have Hb2 := Lib.hid hb2
 have HR2 := Lib.hid hR2
 have HBL2 := Lib.hid hbel2
 have HKB2 := Lib.hid hkb2
 clear hb2 hR2 hbel2 hkb2 hHeld
 go_wp2
 go_ret
 exact ⟨by simp, ⟨⟨_, Hb2.out, HR2.out⟩, hge, HBL2.out⟩, HKB2.out⟩
end Go.Proofs.Ythlffghlkggimaa.Pr
