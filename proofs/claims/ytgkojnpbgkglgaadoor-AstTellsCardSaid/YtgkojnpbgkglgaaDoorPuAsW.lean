/- ast.All, walked by hand: the nodes of a tree in their order, each with how deep it lies; what a loop over it must keep. -/
import Derived.RangeFuncNested
import Derived.RangeFuncBound
import Derived.RangeFuncCalls
import Derived.RangeFuncLeaves
import Derived.Shelf.Abstract
import Derived.Shelf.RegionOpen
import Derived.OwnWalkIn
import Derived.TacticsInMore
import Derived.LoopNIn
import Derived.LoopIn
import Derived.Test.YtgkojnpbgkglgaaDoorPr0
set_option linter.unusedVariables false
set_option linter.unusedSimpArgs false
namespace Go.Proofs.YtgkojnpbgkglgaaDoor.Pr
open Go Go.RowKit Go.Shelf Go.Proofs.YtgkojnpbgkglgaaDoorW.PrintWords Go.Proofs.YtgkojnpbgkglgaaDoorW.PrintLast Go.Proofs.YtgkojnpbgkglgaaDoorW.PrintMore
attribute [local go_sem] Oper.semAt_some

abbrev ANode := S26
mutual
/-- a node and all below it, each ahead of its kids, with how deep it lies -/
def allT (d : Int) : ANode → List (Int × ANode)
  | ⟨o, t, a, ks⟩ => (d, ⟨o, t, a, ks⟩) :: allKs (d + 1) ks
def allKs (d : Int) : List ANode → List (Int × ANode)
  | [] => []
  | k :: r => allT d k ++ allKs d r
end
theorem allT_eq (d : Int) (n : ANode) : allT d n = (d, n) :: allKs (d + 1) n.f3 := by cases n; rw [allT]
theorem allKs_app (d : Int) (a b : List ANode) : allKs d (a ++ b) = allKs d a ++ allKs d b := by
  induction a with
  | nil => simp [allKs]
  | cons k r ih => simp [allKs, ih]
theorem allT_pos (d : Int) (n : ANode) : 0 < (allT d n).length := by rw [allT_eq]; simp
theorem allKs_len (d : Int) (l : List ANode) : l.length ≤ (allKs d l).length := by
  induction l with
  | nil => simp [allKs]
  | cons k r ih => have := allT_pos d k; simp [allKs]; omega
mutual
theorem allT_len (d d' : Int) : ∀ n : ANode, (allT d n).length = (allT d' n).length
  | ⟨o, t, a, ks⟩ => by rw [allT, allT]; simp [allKs_lend (d + 1) (d' + 1) ks]
theorem allKs_lend (d d' : Int) : ∀ l : List ANode, (allKs d l).length = (allKs d' l).length
  | [] => by simp [allKs]
  | k :: r => by rw [allKs, allKs]; simp [allT_len d d' k, allKs_lend d d' r]
end
/-- an element that comes: how deep; the node; where its kids lie -/
structure AEl where
  d : Int
  n : ANode
  A : Option Addr
  c : Nat
def AEl.val (x : AEl) : Value := .agg #[.string x.n.f0, .string x.n.f1, .int .i64 x.n.f2, .slice x.A x.n.f3.length x.c]
def AEl.ok (w : World) (x : AEl) : Prop := x.n.f3.length ≤ x.c ∧ Kd.C k26 w x.A x.n.f3.length x.n.f3 ∧ 0 ≤ x.d ∧ x.d ≤ 1000000000000
abbrev AElW (G : ANode → Prop) (w : World) := { x : AEl // x.ok w ∧ G x.n }
def AElW.enc {G : ANode → Prop} {w : World} (x : AElW G w) : Array Value := #[.int .i64 x.1.d, x.1.val]
def toldE {G : ANode → Prop} {w : World} (xs : List (AElW G w)) : List (Int × ANode) := xs.map fun x => (x.1.d, x.1.n)
theorem toldE_app {G : ANode → Prop} {w : World} (a b : List (AElW G w)) : toldE (a ++ b) = toldE a ++ toldE b := List.map_append
/-- what a round that goes on keeps: all below n₀; all cells but those of the loop's own variables (M) -/
structure KpM (n₀ : Nat) (M : Nat → Prop) (W W' : World) : Prop where
  below : Below n₀ W W'
  cells : ∀ (k : Nat) (o : Obj), W.heap[k]? = some o → o.isCells = true → ¬ M k → W'.heap[k]? = some o
theorem KpM.refl (n₀ : Nat) (M : Nat → Prop) (W : World) : KpM n₀ M W W := ⟨Below.refl _ _, fun _ _ h _ _ => h⟩
theorem KpM.trans {n₀ : Nat} {M : Nat → Prop} {A B C : World} (h : KpM n₀ M A B) (h' : KpM n₀ M B C) : KpM n₀ M A C := ⟨h.below.trans h'.below, fun k o hk ho hm => h'.cells k o (h.cells k o hk ho hm) ho hm⟩
theorem KpM.book {n₀ : Nat} {M : Nat → Prop} {w : World} (hn : n₀ ≤ w.heap.size) : ∀ (W : World) (l : Nat) (o o' : Obj), w.heap.size ≤ l → W.heap[l]? = some o → o.isCells = false → o.isWalk = false → KpM n₀ M W (W.putObj l o') := fun W l o o' hl ho hc hw =>
  ⟨belowK_b hn W l o o' hl ho hc hw, fun k p hk hp hm => by
    have hne : k ≠ l := by rintro rfl; rw [ho] at hk; injection hk with hk; subst hk; rw [hc] at hp; cases hp
    exact (World.putObj_heap_other (by omega)).trans hk⟩
theorem KpM.set {n₀ : Nat} {M : Nat → Prop} {W : World} {p : Addr} (hn : n₀ ≤ p.block) (hM : M p.block) (v : Value) : KpM n₀ M W (W.setCell p v) :=
  ⟨(Below.refl n₀ W).setCell hn _, fun k o hk ho hm => (Below.heap_setCell W p v k (by rintro rfl; exact hm hM)).trans hk⟩
theorem KpM.of_below {n₀ : Nat} {M : Nat → Prop} {W W' : World} (hn : n₀ ≤ W.heap.size) (h : Below W.heap.size W W') : KpM n₀ M W W' :=
  ⟨h.mono hn, fun k o hk _ _ => (h.block k (Array.getElem?_eq_some_iff.1 hk).1).trans hk⟩
theorem room_free {F : Fence} (hd : F.depth = none) (k : Nat) : F.room k := fun d h => by rw [hd] at h; cases h
theorem RoundIn.freeD {F : Fence} (hd : F.depth = none) {m m' : Nat} {P : Program} {l : Nat} {f : FuncId} {tmps : Array Value} {assign body : Code} {w : World} {R : Ending → World → Prop}
    (h : RoundIn F m P l f tmps assign body w R) : RoundIn F m' P l f tmps assign body w R := ⟨h.1, fun c cs _ => h.2 c cs (room_free hd _)⟩
theorem YieldAt.freeD {F : Fence} (hd : F.depth = none) {m : Nat} (m' : Nat) {P : Program} {l : Nat} {args : Array Value} {W : World} {R : Ending → World → Prop} (h : YieldAt F m P l args W R) : YieldAt F m' P l args W R := by
  obtain ⟨fn, tmps, assign, body, hy, hR⟩ := h
  exact ⟨fn, tmps, assign, body, hy, RoundIn.freeD hd hR⟩
theorem grown_alloc (W : World) (o : Obj) : W.grownBy (W.alloc o) none := World.grownBy_alloc W o none
theorem grown_set (W : World) (o : Obj) (i : Nat) (v : Value) {W' : World} (h : W.grownBy W' none) (g : Nat) (hg : W.heap.size ≤ g) : W.grownBy (W'.setCell ⟨g, i, none⟩ v) none :=
  ⟨by simp [World.setCell, h.os], by simp [World.setCell, h.tape], by simp [World.setCell, h.output], Nat.le_trans h.size (by simp [World.setCell]), fun k hk hn => (Below.heap_setCell W' ⟨g, i, none⟩ v k (by simp; omega)).trans (h.block k hk hn)⟩
theorem kid_len {ks : List ANode} (i : Nat) (hi : i < ks.length) (e : Int) : (allKs e (ks.take i)).length + (allT 0 ks[i]).length ≤ (allKs 0 ks).length := by
  have h : (allKs 0 ks).length = (allKs 0 (ks.take i)).length + (allKs 0 (ks.drop i)).length := by rw [← List.length_append, ← allKs_app, List.take_append_drop]
  rw [List.drop_eq_getElem_cons hi, allKs, List.length_append, allKs_lend 0 e (ks.take i)] at h
  omega
theorem kid_snoc {ks : List ANode} (i : Nat) (hi : i < ks.length) (e : Int) : allKs e (ks.take (i + 1)) = allKs e (ks.take i) ++ allT e ks[i] := by
  rw [List.take_succ_eq_append_getElem hi, allKs_app]
  simp [allKs]
theorem kid_pre {ks : List ANode} (i : Nat) (hi : i < ks.length) (e : Int) : allKs e ks = allKs e (ks.take i) ++ (allT e ks[i] ++ allKs e (ks.drop (i + 1))) := by
  have h : allKs e ks = allKs e (ks.take i) ++ allKs e (ks.drop i) := by rw [← allKs_app, List.take_append_drop]
  rw [h, List.drop_eq_getElem_cons hi, allKs]
theorem kid_facts {w : World} {A : Option Addr} {ks : List ANode} (h : Kd.C k26 w A ks.length ks) (i : Nat) (hi : i < ks.length) :
    ∃ ad A3 c3, A = some ad ∧ w.cell? (ad.add (i * 4)) = some (.string ks[i].f0) ∧ w.cell? ⟨(ad.add (i * 4)).block, (ad.add (i * 4)).off + 1, none⟩ = some (.string ks[i].f1) ∧ w.cell? ⟨(ad.add (i * 4)).block, (ad.add (i * 4)).off + 2, none⟩ = some (.int .i64 ks[i].f2) ∧ w.cell? ⟨(ad.add (i * 4)).block, (ad.add (i * 4)).off + 3, none⟩ = some (.slice A3 ks[i].f3.length c3) ∧ ks[i].f3.length ≤ c3 ∧ Kd.C k26 w A3 ks[i].f3.length ks[i].f3 := by
  obtain ⟨ad, A3, c3, e, h0, h1, h2, h3, l3, g3⟩ := at_T26 h (i : Int) (by omega) (by omega)
  have hr : rd_T26 ks (i : Int) = ks[i] := by simp [rd_T26, hi]
  rw [hr] at h0 h1 h2 h3 l3 g3
  exact ⟨ad, A3, c3, e, h0, h1, h2, h3, l3, g3⟩

set_option maxRecDepth 100000 in
set_option maxHeartbeats 4000000 in
/-- **walk: a node and all below it, handed to yield one behind the other.** -/
theorem walk_in (G : ANode → Prop) (hG : ∀ n, G n → ∀ k ∈ n.f3, G k) (F : Fence) (hd : F.depth = none) (hf : F.fn 24) (hro : F.round = none) (l N : Nat) (w : World) (M : Nat → Prop) (hM : ∀ k, M k → k < w.heap.size) (n₀ : Nat) (w0 : World) (hw0 : w0.heap.size = n₀) (hb0 : n₀ ≤ w.heap.size) (J Jx : List (AElW G w0) → World → Prop)
    (hJ : ∀ s W W', J s W → W.grownBy W' none → J s W')
    (hY : ∀ m pre x W, J pre W → pre.length < N → YieldAt F m Tryd.prog l (AElW.enc x) W fun e W' =>
      (e = .returned (.bool true) ∧ J (pre ++ [x]) W' ∧ KpM n₀ M W W') ∨ (e = .returned (.bool false) ∧ Jx (pre ++ [x]) W')) (sz : Nat) :
    ∀ (m : Nat) (x : AElW G w0) (pre : List (AElW G w0)) (W : World), (allT 0 x.1.n).length ≤ sz → w.heap.size ≤ W.heap.size → Below n₀ w0 W → J pre W → pre.length + (allT 0 x.1.n).length ≤ N → 0 ≤ x.1.d → x.1.d + (allT 0 x.1.n).length ≤ 1000000000000 →
      CallsIn F m Tryd.prog 24 #[x.1.val, .int .i64 x.1.d, .func (.yield l) #[] #[]] W fun e W' =>
        (e = .returned (.bool true) ∧ (∃ q, toldE q = allT x.1.d x.1.n ∧ J (pre ++ q) W') ∧ KpM n₀ M W W') ∨ (e = .returned (.bool false) ∧ ∃ q, toldE q <+: allT x.1.d x.1.n ∧ Jx (pre ++ q) W') := by
  induction sz with
  | zero => intro m x pre W h; have := allT_pos 0 x.1.n; omega
  | succ sz ih =>
    rintro m ⟨⟨d, ⟨o, t, a, ks⟩, A, c⟩, hok⟩ pre W hsz hs hB hj hN h0 h1
    have hok' := hok
    obtain ⟨⟨hc, hC, hd0, hd1⟩, hg⟩ := hok'
    dsimp only [AEl.val] at hc hC hd0 hd1 hsz hN h0 h1 ⊢
    have hdd : ∀ k : Nat, (F.depth.isSome = true → 1 ≤ k) := fun k h => by rw [hd] at h; cases h
    have hlen : (allT 0 ⟨o, t, a, ks⟩).length = (allKs 0 ks).length + 1 := by rw [allT_eq, List.length_cons]; simp only; rw [allKs_lend (0 + 1) 0]
    rw [hlen] at hsz hN h1
    have hkl := allKs_len 0 ks
    obtain ⟨x, hx⟩ : ∃ x : AElW G w0, x = ⟨⟨d, ⟨o, t, a, ks⟩, A, c⟩, hok⟩ := ⟨_, rfl⟩

    have hj1 : J pre (W.alloc (.cells #[.string o, .string t, .int .i64 a, .slice A ks.length c] 26)) := hJ _ _ _ hj (grown_alloc _ _)
    obtain ⟨fn, tmps, assign, body, hy, hR⟩ := hY (m - 1) pre x _ hj1 (by omega)
    rw [show AElW.enc x = #[.int .i64 d, .agg #[.string o, .string t, .int .i64 a, .slice A ks.length c]] by rw [hx]; rfl] at hy
    have hR := Lib.hid hR
    have hC := Lib.hid hC
    have hu := Tryd.underlying26
    refine callsIn_of_wp Tryd.func24 rfl hf ?_ hro
    simp only [Tryd.ntmps24, List.size_toArray, List.length_cons, List.length_nil, Nat.reduceAdd, Nat.reduceSub, Array.replicate_succ, Array.replicate_zero, List.push_toArray, List.append_toArray, List.nil_append, List.cons_append]
    gi_wp2
    refine hR.out.mono ?_
    clear hR hy
    rintro e W2 (⟨rfl, hj2, hk2⟩ | ⟨rfl, hx2⟩)
    · have hbox : W2.heap[W.heap.size]? = some (.cells #[.string o, .string t, .int .i64 a, .slice A ks.length c] 26) := hk2.cells _ _ (heap_alloc_new W _) rfl (fun hm => by have := hM _ hm; omega)
      have e3 : W2.cell? ⟨W.heap.size, 3, none⟩ = some (.slice A ks.length c) := (blk_cell hbox 3).trans rfl
      have hk1 : KpM n₀ M W W2 := (KpM.of_below (by omega) ((Below.refl _ _).alloc (Nat.le_refl _) _)).trans hk2
      gi_wp2
      gi_loopw [17] (fun v wr => ∃ (i : Nat) (q : List (AElW G w0)), v = .int .i64 (i : Int) ∧ i ≤ ks.length ∧ Hid (toldE q = allKs (d + 1) (ks.take i)) ∧ Hid (J (pre ++ x :: q) wr) ∧ Hid (KpM n₀ M W wr))
        (fun v _ => ks.length - (intOf v).toNat)
      case atStart => exact ⟨0, [], rfl, by omega, Lib.hid (by simp [toldE, allKs]), Lib.hid (by simpa using hj2), Lib.hid hk1⟩
      case round =>
        clear hj2 hk2 hk1 hbox e3
        obtain ⟨i, q, rfl, hi, hq, hjr, hkr⟩ := hrel
        by_cases hlt : i < ks.length
        · have hdc : decide ((i : Int) < (ks.length : Int)) = true := decide_eq_true (by omega)
          obtain ⟨ad, A3, c3, eA, f0, f1, f2, f3, l3, g3⟩ := kid_facts hC.out i hlt
          have hwr : Below n₀ w0 wr := hB.trans hkr.out.below
          have hsr := hkr.out.below.size
          have b0 := World.block_lt_of_cell? _ _ f0
          have f0 := (hwr.cell (p := ad.add (i * 4)) (by omega)).trans f0
          have f1 := (hwr.cell (p := ⟨(ad.add (i * 4)).block, (ad.add (i * 4)).off + 1, none⟩) (by simp only; omega)).trans f1
          have f2 := (hwr.cell (p := ⟨(ad.add (i * 4)).block, (ad.add (i * 4)).off + 2, none⟩) (by simp only; omega)).trans f2
          have f3 := (hwr.cell (p := ⟨(ad.add (i * 4)).block, (ad.add (i * 4)).off + 3, none⟩) (by simp only; omega)).trans f3
          subst eA
          have hkid := kid_len i hlt (d + 1)
          have hql : q.length = (allKs (d + 1) (ks.take i)).length := by have := congrArg List.length hq.out; simpa [toldE] using this
          have IH := ih (m - 1) ⟨⟨d + 1, ks[i], A3, c3⟩, ⟨l3, g3, by dsimp only; omega, by dsimp only; have := allT_pos 0 ks[i]; omega⟩, hG _ hg _ (List.getElem_mem hlt)⟩ (pre ++ x :: q) (wr.alloc (.cells #[.string ks[i].f0, .string ks[i].f1, .int .i64 ks[i].f2, .slice A3 ks[i].f3.length c3] 26))
            (by dsimp only; omega) (by simp; omega) (hwr.alloc (by omega) _) (hJ _ _ _ hjr.out (grown_alloc _ _)) (by simp only [List.length_append, List.length_cons]; omega) (by dsimp only; omega) (by dsimp only; omega)
          dsimp only [AEl.val] at IH
          gi_wp2_with ((try refine ⟨hdd _, ?_⟩); gi_at_call 24; refine IH.mono ?_; clear IH; rintro e W3 (⟨rfl, ⟨q', hq', hj3⟩, hk3⟩ | ⟨rfl, q', hq', hx3⟩))
          · go_roundw
            case rel =>
              refine ⟨i + 1, q ++ q', by simp, by omega, Lib.hid (by rw [toldE_app, hq.out, hq', kid_snoc i hlt]), Lib.hid (by simpa [List.append_assoc] using hj3), Lib.hid (hkr.out.trans ((KpM.of_below (by omega) ((Below.refl _ _).alloc (Nat.le_refl _) _)).trans hk3))⟩
            case measure => simp only [intOf]; omega
          · go_ret
            obtain ⟨r, hr⟩ := hq'
            refine .inr ⟨rfl, x :: (q ++ q'), ?_, by simpa [List.append_assoc] using hx3⟩
            rw [allT_eq, show toldE (x :: (q ++ q')) = (d, ⟨o, t, a, ks⟩) :: (toldE q ++ toldE q') by rw [hx]; simp [toldE], hq.out]
            refine ⟨r ++ allKs (d + 1) (ks.drop (i + 1)), ?_⟩
            simp only
            rw [kid_pre i hlt, ← hr]
            simp [List.append_assoc]
        · have hdc : decide ((i : Int) < (ks.length : Int)) = false := decide_eq_false (by omega)
          obtain rfl : i = ks.length := by omega
          gi_wp2
          go_ret
          refine .inl ⟨rfl, ⟨x :: q, ?_, hjr.out⟩, hkr.out⟩
          rw [allT_eq, show toldE (x :: q) = (d, ⟨o, t, a, ks⟩) :: toldE q by rw [hx]; simp [toldE], hq.out, List.take_length]
    · gi_wp2
      go_ret
      refine .inr ⟨rfl, [x], ?_, hx2⟩
      rw [allT_eq, show toldE [x] = [(d, ⟨o, t, a, ks⟩)] by rw [hx]; simp [toldE]]
      exact ⟨_, rfl⟩

set_option maxHeartbeats 2000000 in
/-- **ast.All: the node is boxed; the function value captures the box.** -/
theorem ast_All_in (F : Fence) (m : Nat) (hf : F.fn 10) (hro : F.round = none) (o t : ByteArray) (a : Int) (A : Option Addr) (k c : Nat) (w : World) :
    CallsIn F m Tryd.prog 10 #[.agg #[.string o, .string t, .int .i64 a, .slice A k c]] w fun e w' => e = .returned (.func (.func 23) #[] #[.pointer (some ⟨w.heap.size, 0, none⟩)]) ∧ w' = w.alloc (.cells #[.string o, .string t, .int .i64 a, .slice A k c] 26) := by
  refine callsIn_of_wp Tryd.func10 rfl hf ?_ hro
  simp only [Tryd.ntmps10, List.size_toArray, List.length_cons, List.length_nil, Nat.reduceAdd, Nat.reduceSub, Array.replicate_succ, Array.replicate_zero, List.push_toArray, List.append_toArray, List.nil_append, List.cons_append]
  gi_wp2
  go_ret
  exact ⟨rfl, rfl⟩
set_option maxHeartbeats 2000000 in
theorem all1_in (G : ANode → Prop) (hG : ∀ n, G n → ∀ k ∈ n.f3, G k) (F : Fence) (hd : F.depth = none) (m : Nat) (hf1 : F.fn 23) (hf : F.fn 24) (hro : F.round = none) (g : Nat) (w0 w : World) (M : Nat → Prop) (hM : ∀ k, M k → k < w.heap.size) (hb0 : w0.heap.size ≤ w.heap.size)
    (x : AElW G w0) (hx0 : x.1.d = 0) (hlen : (allT 0 x.1.n).length ≤ 1000000000000) (l : Nat) (J Jx : List (AElW G w0) → World → Prop)
    (hJ : ∀ s W W', J s W → W.grownBy W' none → J s W')
    (hY : ∀ pre y W, J pre W → pre.length < (allT 0 x.1.n).length → YieldAt F (m - 1) Tryd.prog l (AElW.enc y) W fun e W' =>
      (e = .returned (.bool true) ∧ J (pre ++ [y]) W' ∧ KpM w0.heap.size M W W') ∨ (e = .returned (.bool false) ∧ Jx (pre ++ [y]) W'))
    (W : World) (hW : w.heap.size ≤ W.heap.size) (hB : Below w0.heap.size w0 W) (hbox : W.heap[g]? = some (.cells #[.string x.1.n.f0, .string x.1.n.f1, .int .i64 x.1.n.f2, .slice x.1.A x.1.n.f3.length x.1.c] 26)) (h0 : J [] W) :
    CallsIn F m Tryd.prog 23 #[.func (.yield l) #[] #[], .pointer (some ⟨g, 0, none⟩)] W fun e W' => (∃ v, e = .returned v) ∧
      ((∃ ys, toldE ys = allT 0 x.1.n ∧ J ys W') ∨ (∃ pre, toldE pre <+: allT 0 x.1.n ∧ Jx pre W')) := by
  have hdd : ∀ k : Nat, (F.depth.isSome = true → 1 ≤ k) := fun k h => by rw [hd] at h; cases h
  have hp := walk_in G hG F hd hf hro l (allT 0 x.1.n).length w M hM w0.heap.size w0 rfl hb0 J Jx hJ (fun q pre y W hj hl => YieldAt.freeD hd q (hY pre y W hj hl)) (allT 0 x.1.n).length (m - 1) x [] W (Nat.le_refl _) hW hB h0 (by simp) (by omega) (by rw [hx0]; omega)
  rw [hx0] at hp
  unfold AEl.val at hp
  have hp := Lib.hid hp
  have c0 : W.cell? ⟨g, 0, none⟩ = some (.string x.1.n.f0) := (blk_cell hbox 0).trans rfl
  have c1 : W.cell? ⟨g, 1, none⟩ = some (.string x.1.n.f1) := (blk_cell hbox 1).trans rfl
  have c2 : W.cell? ⟨g, 2, none⟩ = some (.int .i64 x.1.n.f2) := (blk_cell hbox 2).trans rfl
  have c3 : W.cell? ⟨g, 3, none⟩ = some (.slice x.1.A x.1.n.f3.length x.1.c) := (blk_cell hbox 3).trans rfl
  refine callsIn_of_wp Tryd.func23 rfl hf1 ?_ hro
  simp only [Tryd.ntmps23, List.size_toArray, List.length_cons, List.length_nil, Nat.reduceAdd, Nat.reduceSub, Array.replicate_succ, Array.replicate_zero, List.push_toArray, List.append_toArray, List.nil_append, List.cons_append]
  gi_wp2_with ((try refine ⟨hdd _, ?_⟩); gi_at_call 24; refine hp.out.mono ?_; clear hp; rintro e W1 (⟨rfl, ⟨q, hq, hJ1⟩, _⟩ | ⟨rfl, q, hq, hx⟩))
  · go_end0
    exact ⟨⟨_, rfl⟩, .inl ⟨_, hq, by simpa using hJ1⟩⟩
  · go_end0
    exact ⟨⟨_, rfl⟩, .inr ⟨q, hq, by simpa using hx⟩⟩
/-- **what a loop over All(n) may rely on.** g: the block in which All has laid the node. -/
theorem all_stops (G : ANode → Prop) (hG : ∀ n, G n → ∀ k ∈ n.f3, G k) (F : Fence) (hd : F.depth = none) (m : Nat) (hf1 : F.fn 23) (hf : F.fn 24) (hro : F.round = none) (g : Nat) (w0 w : World) (M : Nat → Prop) (hM : ∀ k, M k → k < w.heap.size) (hb0 : Below w0.heap.size w0 w)
    (x : AElW G w0) (hx0 : x.1.d = 0) (hlen : (allT 0 x.1.n).length ≤ 1000000000000) (hg : g < w.heap.size)
    (hbox : w.heap[g]? = some (.cells #[.string x.1.n.f0, .string x.1.n.f1, .int .i64 x.1.n.f2, .slice x.1.A x.1.n.f3.length x.1.c] 26)) :
    SeqStopsK F m Tryd.prog 23 #[.pointer (some ⟨g, 0, none⟩)] (fun y : AElW G w0 => AElW.enc y) (KpM w0.heap.size M) (fun ys => toldE ys = allT 0 x.1.n) (fun pre => toldE pre <+: allT 0 x.1.n) (allT 0 x.1.n).length w := fun l J Jx W hW hJ _ hY h0 =>
  all1_in G hG F hd m hf1 hf hro g w0 w M hM hb0.size x hx0 hlen l J Jx (fun s A B hj hg' => hJ s A B none hj hg' (fun r e => by cases e)) hY W hW.size (hb0.trans (hW.mono hb0.size)) ((hW.block g hg).trans hbox) h0
end Go.Proofs.YtgkojnpbgkglgaaDoor.Pr
