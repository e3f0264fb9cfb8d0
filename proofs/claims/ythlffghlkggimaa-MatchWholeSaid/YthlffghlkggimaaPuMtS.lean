/- match: the states of a tree, what they come through, and what close leaves; plain Lean. -/
import Derived.Test.YthlffghlkggimaaPuRxB0
import Derived.Test.YthlffghlkggimaaPr11
set_option linter.unusedVariables false
namespace Go.Proofs.Ythlffghlkggimaa.Pr
open Go Go.RowKit Go.Proofs.YthlffghlkggimaaW.PrintWords Go.Proofs.YthlffghlkggimaaW.PrintLast Go.Proofs.YthlffghlkggimaaW.PrintMore
abbrev MSt := S68
inductive Star (r : Nat → Nat → Prop) : Nat → Nat → Prop
 | nil {i : Nat} : Star r i i
 | cons {i m j : Nat} : r i m → Star r m j → Star r i j
section
variable (ch : Nat → Nat) (N : Nat)
mutual
def Mt : RNode → Nat → Nat → Prop
 | ⟨op, w, ks⟩ => fun i j =>
  if op = 1 then i < N ∧ bitS w (ch i) = true ∧ j = i + 1
  else if op = 7 then i = 0 ∧ j = i
  else if op = 8 then i = N ∧ j = i
  else if op = 2 then MtC ks i j
  else if op = 3 then MtA ks i j
  else if op = 4 then Star (MtH ks) i j
  else if op = 5 then ∃ m, MtH ks i m ∧ Star (MtH ks) m j
  else if op = 6 then MtH ks i j ∨ j = i
  else j = i
def MtC : List RNode → Nat → Nat → Prop
 | [] => fun i j => j = i
 | k :: ks => fun i j => ∃ m, Mt k i m ∧ MtC ks m j
def MtA : List RNode → Nat → Nat → Prop
 | [] => fun _ _ => False
 | k :: ks => fun i j => Mt k i j ∨ MtA ks i j
def MtH : List RNode → Nat → Nat → Prop
 | [] => fun i j => j = i
 | k :: _ => fun i j => Mt k i j
end
end
mutual
def cnt : RNode → Nat
 | ⟨op, _, ks⟩ => if op = 1 ∨ op = 7 ∨ op = 8 then 1 else if op = 2 then cntC ks else if op = 3 then cntA ks else if op = 4 ∨ op = 5 ∨ op = 6 then 1 + cntH ks else 0
def cntC : List RNode → Nat
 | [] => 0
 | k :: ks => cnt k + cntC ks
def cntA : List RNode → Nat
 | [] => 0
 | k :: ks => cnt k + (if ks = [] then 0 else cntA ks + 1)
def cntH : List RNode → Nat
 | [] => 0
 | k :: _ => cnt k
end
mutual
def bld : RNode → Nat → List MSt → Nat × List MSt
 | ⟨op, w, ks⟩ => fun tz l =>
  if op = 1 then (l.length, l ++ [⟨0, w, (tz : Int), 0⟩])
  else if op = 7 then (l.length, l ++ [⟨2, zW, (tz : Int), 0⟩])
  else if op = 8 then (l.length, l ++ [⟨3, zW, (tz : Int), 0⟩])
  else if op = 2 then bldC ks tz l
  else if op = 3 then bldA ks tz l
  else if op = 4 then (l.length, (bldH ks l.length (l ++ [⟨1, zW, 0, (tz : Int)⟩])).2.set l.length ⟨1, zW, ((bldH ks l.length (l ++ [⟨1, zW, 0, (tz : Int)⟩])).1 : Int), (tz : Int)⟩)
  else if op = 5 then ((bldH ks l.length (l ++ [⟨1, zW, 0, (tz : Int)⟩])).1, (bldH ks l.length (l ++ [⟨1, zW, 0, (tz : Int)⟩])).2.set l.length ⟨1, zW, ((bldH ks l.length (l ++ [⟨1, zW, 0, (tz : Int)⟩])).1 : Int), (tz : Int)⟩)
  else if op = 6 then ((bldH ks tz l).2.length, (bldH ks tz l).2 ++ [⟨1, zW, ((bldH ks tz l).1 : Int), (tz : Int)⟩])
  else (tz, l)
def bldC : List RNode → Nat → List MSt → Nat × List MSt
 | [] => fun tz l => (tz, l)
 | k :: ks => fun tz l => bld k (bldC ks tz l).1 (bldC ks tz l).2
def bldA : List RNode → Nat → List MSt → Nat × List MSt
 | [] => fun tz l => (tz, l)
 | k :: ks => fun tz l => if ks = [] then bld k tz l else ((bld k tz (bldA ks tz l).2).2.length, (bld k tz (bldA ks tz l).2).2 ++ [⟨1, zW, ((bld k tz (bldA ks tz l).2).1 : Int), ((bldA ks tz l).1 : Int)⟩])
def bldH : List RNode → Nat → List MSt → Nat × List MSt
 | [] => fun tz l => (tz, l)
 | k :: _ => fun tz l => bld k tz l
end
mutual
def Wf : RNode → Prop
 | ⟨op, _, ks⟩ => WfL ks ∧ (op = 3 → ks ≠ []) ∧ (op = 4 ∨ op = 5 ∨ op = 6 → ks ≠ [])
def WfL : List RNode → Prop
 | [] => True
 | k :: ks => Wf k ∧ WfL ks
end
inductive Rn (L : List MSt) (ch : Nat → Nat) (N : Nat) : Nat → Nat → Nat → Nat → Prop
 | done {e : Nat} : Rn L ch N 0 0 e e
 | one {k x i e : Nat} {s : MSt} : L[x]? = some s → s.f0 = 0 → i < N → bitS s.f1 (ch i) = true → Rn L ch N k s.f2.toNat (i + 1) e → Rn L ch N (k + 1) x i e
 | spA {k x i e : Nat} {s : MSt} : L[x]? = some s → s.f0 = 1 → Rn L ch N k s.f2.toNat i e → Rn L ch N (k + 1) x i e
 | spB {k x i e : Nat} {s : MSt} : L[x]? = some s → s.f0 = 1 → Rn L ch N k s.f3.toNat i e → Rn L ch N (k + 1) x i e
 | beg {k x e : Nat} {s : MSt} : L[x]? = some s → s.f0 = 2 → Rn L ch N k s.f2.toNat 0 e → Rn L ch N (k + 1) x 0 e
 | fin {k x e : Nat} {s : MSt} : L[x]? = some s → s.f0 = 3 → Rn L ch N k s.f2.toNat N e → Rn L ch N (k + 1) x N e
section
variable (w : RSet) (ks : List RNode) (tz : Nat) (l : List MSt)
theorem bld_1 : bld ⟨1, w, ks⟩ tz l = (l.length, l ++ [⟨0, w, (tz : Int), 0⟩]) := by unfold bld; rfl
theorem bld_7 : bld ⟨7, w, ks⟩ tz l = (l.length, l ++ [⟨2, zW, (tz : Int), 0⟩]) := by unfold bld; rfl
theorem bld_8 : bld ⟨8, w, ks⟩ tz l = (l.length, l ++ [⟨3, zW, (tz : Int), 0⟩]) := by unfold bld; rfl
theorem bld_2 : bld ⟨2, w, ks⟩ tz l = bldC ks tz l := by (conv => lhs; unfold bld); rfl
theorem bld_3 : bld ⟨3, w, ks⟩ tz l = bldA ks tz l := by (conv => lhs; unfold bld); rfl
theorem bld_4 : bld ⟨4, w, ks⟩ tz l = (l.length, (bldH ks l.length (l ++ [⟨1, zW, 0, (tz : Int)⟩])).2.set l.length ⟨1, zW, ((bldH ks l.length (l ++ [⟨1, zW, 0, (tz : Int)⟩])).1 : Int), (tz : Int)⟩) := by (conv => lhs; unfold bld); rfl
theorem bld_5 : bld ⟨5, w, ks⟩ tz l = ((bldH ks l.length (l ++ [⟨1, zW, 0, (tz : Int)⟩])).1, (bldH ks l.length (l ++ [⟨1, zW, 0, (tz : Int)⟩])).2.set l.length ⟨1, zW, ((bldH ks l.length (l ++ [⟨1, zW, 0, (tz : Int)⟩])).1 : Int), (tz : Int)⟩) := by (conv => lhs; unfold bld); rfl
theorem bld_6 : bld ⟨6, w, ks⟩ tz l = ((bldH ks tz l).2.length, (bldH ks tz l).2 ++ [⟨1, zW, ((bldH ks tz l).1 : Int), (tz : Int)⟩]) := by (conv => lhs; unfold bld); rfl
theorem bld_0 {op : Int} (h : op ≠ 1 ∧ op ≠ 7 ∧ op ≠ 8 ∧ op ≠ 2 ∧ op ≠ 3 ∧ op ≠ 4 ∧ op ≠ 5 ∧ op ≠ 6) : bld ⟨op, w, ks⟩ tz l = (tz, l) := by
 unfold bld
 rw [if_neg h.1, if_neg h.2.1, if_neg h.2.2.1, if_neg h.2.2.2.1, if_neg h.2.2.2.2.1, if_neg h.2.2.2.2.2.1, if_neg h.2.2.2.2.2.2.1, if_neg h.2.2.2.2.2.2.2]
theorem cnt_1 {op : Int} (h : op = 1 ∨ op = 7 ∨ op = 8) : cnt ⟨op, w, ks⟩ = 1 := by unfold cnt; rw [if_pos h]
theorem cnt_2 : cnt ⟨2, w, ks⟩ = cntC ks := by (conv => lhs; unfold cnt); rfl
theorem cnt_3 : cnt ⟨3, w, ks⟩ = cntA ks := by (conv => lhs; unfold cnt); rfl
theorem cnt_4 {op : Int} (h : op = 4 ∨ op = 5 ∨ op = 6) : cnt ⟨op, w, ks⟩ = 1 + cntH ks := by unfold cnt; rw [if_neg (by omega), if_neg (by omega), if_neg (by omega), if_pos h]
theorem cnt_0 {op : Int} (h : op ≠ 1 ∧ op ≠ 7 ∧ op ≠ 8 ∧ op ≠ 2 ∧ op ≠ 3 ∧ op ≠ 4 ∧ op ≠ 5 ∧ op ≠ 6) : cnt ⟨op, w, ks⟩ = 0 := by unfold cnt; rw [if_neg (by omega), if_neg (by omega), if_neg (by omega), if_neg (by omega)]
end
theorem op_cases (op : Int) : op = 1 ∨ op = 7 ∨ op = 8 ∨ op = 2 ∨ op = 3 ∨ op = 4 ∨ op = 5 ∨ op = 6 ∨ (op ≠ 1 ∧ op ≠ 7 ∧ op ≠ 8 ∧ op ≠ 2 ∧ op ≠ 3 ∧ op ≠ 4 ∧ op ≠ 5 ∧ op ≠ 6) := by omega
structure Bd (l : List MSt) (c : Nat) (y : Nat × List MSt) : Prop where
 len : y.2.length = l.length + c
 pre : ∀ k, k < l.length → y.2[k]? = l[k]?
 lt : y.1 < y.2.length
theorem Bd.add (l : List MSt) (s : MSt) : Bd l 1 (l.length, l ++ [s]) := ⟨by simp, fun k hk => List.getElem?_append_left hk, by simp⟩
theorem Bd.loop {l : List MSt} {s s' : MSt} {c x : Nat} {y : Nat × List MSt} (h : Bd (l ++ [s]) c y) (hx : x < y.2.length) : Bd l (1 + c) (x, y.2.set l.length s') := by
 have a := h.len
 have b := h.pre
 simp only [List.length_append, List.length_cons, List.length_nil] at a b
 refine ⟨by simp; omega, fun k hk => ?_, by simp; omega⟩
 simp only
 rw [List.getElem?_set_ne (by omega), b k (by omega), List.getElem?_append_left hk]
theorem Bd.trans {l : List MSt} {c d : Nat} {y z : Nat × List MSt} (h : Bd l c y) (k : Bd y.2 d z) : Bd l (c + d) z :=
 ⟨by rw [k.len, h.len]; omega, fun x hx => by rw [k.pre x (by rw [h.len]; omega), h.pre x hx], k.lt⟩
mutual
theorem bld_bd : ∀ (n : RNode) (tz : Nat) (l : List MSt), Wf n → tz < l.length → Bd l (cnt n) (bld n tz l)
 | ⟨op, w, ks⟩, tz, l, hw, ht => by
  unfold Wf at hw
  obtain ⟨hk, h3, h4⟩ := hw
  rcases op_cases op with rfl | rfl | rfl | rfl | rfl | rfl | rfl | rfl | h
  ·rw [bld_1, cnt_1 _ _ (by omega)]; exact .add _ _
  ·rw [bld_7, cnt_1 _ _ (by omega)]; exact .add _ _
  ·rw [bld_8, cnt_1 _ _ (by omega)]; exact .add _ _
  ·rw [bld_2, cnt_2]; exact bldC_bd ks tz l hk ht
  ·rw [bld_3, cnt_3]; exact bldA_bd ks tz l hk (h3 rfl) ht
  ·rw [bld_4, cnt_4 _ _ (by omega)]
   have h := bldH_bd ks l.length (l ++ [⟨1, zW, 0, (tz : Int)⟩]) hk (h4 (by omega)) (by simp)
   exact h.loop (by have := h.len; simp at this; omega)
  ·rw [bld_5, cnt_4 _ _ (by omega)]
   have h := bldH_bd ks l.length (l ++ [⟨1, zW, 0, (tz : Int)⟩]) hk (h4 (by omega)) (by simp)
   exact h.loop h.lt
  ·rw [bld_6, cnt_4 _ _ (by omega), Nat.add_comm]
   exact (bldH_bd ks tz l hk (h4 (by omega)) ht).trans (.add _ _)
  ·rw [bld_0 _ _ _ _ h, cnt_0 _ _ h]; exact ⟨rfl, fun _ _ => rfl, ht⟩
theorem bldC_bd : ∀ (ks : List RNode) (tz : Nat) (l : List MSt), WfL ks → tz < l.length → Bd l (cntC ks) (bldC ks tz l)
 | [], tz, l, _, ht => by unfold bldC cntC; exact ⟨rfl, fun _ _ => rfl, ht⟩
 | k :: ks, tz, l, hw, ht => by
  unfold WfL at hw
  have h1 := bldC_bd ks tz l hw.2 ht
  have h2 := bld_bd k (bldC ks tz l).1 (bldC ks tz l).2 hw.1 h1.lt
  unfold bldC cntC
  rw [Nat.add_comm]
  exact h1.trans h2
theorem bldA_bd : ∀ (ks : List RNode) (tz : Nat) (l : List MSt), WfL ks → ks ≠ [] → tz < l.length → Bd l (cntA ks) (bldA ks tz l)
 | [], tz, l, _, hn, ht => absurd rfl hn
 | k :: ks, tz, l, hw, hn, ht => by
  unfold WfL at hw
  unfold bldA cntA
  by_cases hks : ks = []
  ·simp only [if_pos hks]; exact bld_bd k tz l hw.1 ht
  ·simp only [if_neg hks]
   have h1 := bldA_bd ks tz l hw.2 hks ht
   have h2 := bld_bd k tz (bldA ks tz l).2 hw.1 (by rw [h1.len]; omega)
   have := (h1.trans h2).trans (.add _ ⟨1, zW, ((bld k tz (bldA ks tz l).2).1 : Int), ((bldA ks tz l).1 : Int)⟩)
   rw [show cntA ks + cnt k + 1 = cnt k + (cntA ks + 1) by omega] at this
   exact this
theorem bldH_bd : ∀ (ks : List RNode) (tz : Nat) (l : List MSt), WfL ks → ks ≠ [] → tz < l.length → Bd l (cntH ks) (bldH ks tz l)
 | [], tz, l, _, hn, ht => absurd rfl hn
 | k :: ks, tz, l, hw, hn, ht => by
  unfold WfL at hw
  unfold bldH cntH
  exact bld_bd k tz l hw.1 ht
end
def On (L : List MSt) (a b : Nat) (l : List MSt) : Prop := ∀ k, a ≤ k → k < b → L[k]? = l[k]?
theorem On.mono {L : List MSt} {a b a' b' : Nat} {l : List MSt} (h : On L a b l) (h1 : a ≤ a') (h2 : b' ≤ b) : On L a' b' l := fun k hk hk' => h k (by omega) (by omega)
theorem On.old {L : List MSt} {a b c : Nat} {l : List MSt} {y : Nat × List MSt} (h : On L a b y.2) (hb : Bd l c y) (hl : b ≤ l.length) : On L a b l := fun k hk hk' => (h k hk hk').trans (hb.pre k (by omega))
structure Does (L : List MSt) (ch : Nat → Nat) (N : Nat) (r : Nat → Nat → Prop) (x tz : Nat) : Prop where
 fwd : ∀ k i e, Rn L ch N k x i e → ∃ j m, m ≤ k ∧ r i j ∧ Rn L ch N m tz j e
 bwd : ∀ i j m e, r i j → Rn L ch N m tz j e → ∃ k, Rn L ch N k x i e
variable {L : List MSt} {ch : Nat → Nat} {N : Nat}
theorem Does.id (x : Nat) : Does L ch N (fun i j => j = i) x x := ⟨fun k i e h => ⟨i, k, Nat.le_refl _, rfl, h⟩, fun i j m e h hr => ⟨m, by rw [← h]; exact hr⟩⟩
theorem Does.comp {r q : Nat → Nat → Prop} {x y tz : Nat} (h : Does L ch N r x y) (k : Does L ch N q y tz) : Does L ch N (fun i j => ∃ m, r i m ∧ q m j) x tz := by
 refine ⟨fun n i e hr => ?_, fun i j m e hr hm => ?_⟩
 ·obtain ⟨j, m, hm, h1, h2⟩ := h.fwd n i e hr
  obtain ⟨j', m', hm', h1', h2'⟩ := k.fwd m j e h2
  exact ⟨j', m', by omega, ⟨j, h1, h1'⟩, h2'⟩
 ·obtain ⟨m', h1, h2⟩ := hr
  obtain ⟨n, hn⟩ := k.bwd _ _ _ _ h2 hm
  exact h.bwd _ _ _ _ h1 hn
theorem Does.congr {r q : Nat → Nat → Prop} {x tz : Nat} (h : Does L ch N r x tz) (he : ∀ i j, r i j ↔ q i j) : Does L ch N q x tz :=
 ⟨fun n i e hr => by obtain ⟨j, m, a, b, c⟩ := h.fwd n i e hr; exact ⟨j, m, a, (he i j).1 b, c⟩, fun i j m e hr hm => h.bwd i j m e ((he i j).2 hr) hm⟩
theorem does_one {x : Nat} {s : MSt} (hx : x ≠ 0) (hs : L[x]? = some s) (h0 : s.f0 = 0) : Does L ch N (fun i j => i < N ∧ bitS s.f1 (ch i) = true ∧ j = i + 1) x s.f2.toNat := by
 refine ⟨fun n i e hr => ?_, fun i j m e hr hm => ?_⟩
 ·cases hr with
  | done => exact absurd rfl hx
  | one h a b c d => rw [hs] at h; cases h; exact ⟨_, _, Nat.le_succ _, ⟨b, c, rfl⟩, d⟩
  | spA h a => rw [hs] at h; cases h; omega
  | spB h a => rw [hs] at h; cases h; omega
  | beg h a => rw [hs] at h; cases h; omega
  | fin h a => rw [hs] at h; cases h; omega
 ·obtain ⟨a, b, rfl⟩ := hr
  exact ⟨_, .one hs h0 a b hm⟩
theorem does_beg {x : Nat} {s : MSt} (hx : x ≠ 0) (hs : L[x]? = some s) (h0 : s.f0 = 2) : Does L ch N (fun i j => i = 0 ∧ j = i) x s.f2.toNat := by
 refine ⟨fun n i e hr => ?_, fun i j m e hr hm => ?_⟩
 ·cases hr with
  | done => exact absurd rfl hx
  | one h a => rw [hs] at h; cases h; omega
  | spA h a => rw [hs] at h; cases h; omega
  | spB h a => rw [hs] at h; cases h; omega
  | beg h a d => rw [hs] at h; cases h; exact ⟨_, _, Nat.le_succ _, ⟨rfl, rfl⟩, d⟩
  | fin h a => rw [hs] at h; cases h; omega
 ·obtain ⟨rfl, rfl⟩ := hr
  exact ⟨_, .beg hs h0 hm⟩
theorem does_fin {x : Nat} {s : MSt} (hx : x ≠ 0) (hs : L[x]? = some s) (h0 : s.f0 = 3) : Does L ch N (fun i j => i = N ∧ j = i) x s.f2.toNat := by
 refine ⟨fun n i e hr => ?_, fun i j m e hr hm => ?_⟩
 ·cases hr with
  | done => exact absurd rfl hx
  | one h a => rw [hs] at h; cases h; omega
  | spA h a => rw [hs] at h; cases h; omega
  | spB h a => rw [hs] at h; cases h; omega
  | beg h a => rw [hs] at h; cases h; omega
  | fin h a d => rw [hs] at h; cases h; exact ⟨_, _, Nat.le_succ _, ⟨rfl, rfl⟩, d⟩
 ·obtain ⟨rfl, rfl⟩ := hr
  exact ⟨_, .fin hs h0 hm⟩
theorem split_inv {x : Nat} {s : MSt} (hx : x ≠ 0) (hs : L[x]? = some s) (h0 : s.f0 = 1) {n i e : Nat} (hr : Rn L ch N n x i e) : ∃ k, n = k + 1 ∧ (Rn L ch N k s.f2.toNat i e ∨ Rn L ch N k s.f3.toNat i e) := by
 cases hr with
 | done => exact absurd rfl hx
 | one h a => rw [hs] at h; cases h; omega
 | spA h a d => rw [hs] at h; cases h; exact ⟨_, rfl, .inl d⟩
 | spB h a d => rw [hs] at h; cases h; exact ⟨_, rfl, .inr d⟩
 | beg h a => rw [hs] at h; cases h; omega
 | fin h a => rw [hs] at h; cases h; omega
theorem does_split {r q : Nat → Nat → Prop} {x tz : Nat} {s : MSt} (hx : x ≠ 0) (hs : L[x]? = some s) (h0 : s.f0 = 1) (h1 : Does L ch N r s.f2.toNat tz) (h2 : Does L ch N q s.f3.toNat tz) : Does L ch N (fun i j => r i j ∨ q i j) x tz := by
 refine ⟨fun n i e hr => ?_, fun i j m e hr hm => ?_⟩
 ·obtain ⟨k, rfl, h | h⟩ := split_inv hx hs h0 hr
  ·obtain ⟨j, m, a, b, c⟩ := h1.fwd _ _ _ h; exact ⟨j, m, by omega, .inl b, c⟩
  ·obtain ⟨j, m, a, b, c⟩ := h2.fwd _ _ _ h; exact ⟨j, m, by omega, .inr b, c⟩
 ·rcases hr with hr | hr
  ·obtain ⟨k, h⟩ := h1.bwd _ _ _ _ hr hm; exact ⟨_, .spA hs h0 h⟩
  ·obtain ⟨k, h⟩ := h2.bwd _ _ _ _ hr hm; exact ⟨_, .spB hs h0 h⟩
theorem does_star {r : Nat → Nat → Prop} {x : Nat} {s : MSt} (hx : x ≠ 0) (hs : L[x]? = some s) (h0 : s.f0 = 1) (h1 : Does L ch N r s.f2.toNat x) : Does L ch N (Star r) x s.f3.toNat := by
 refine ⟨fun n => ?_, fun i j m e hr hm => ?_⟩
 ·induction n using Nat.strongRecOn with
  | ind n ih =>
   intro i e hr
   obtain ⟨k, rfl, h | h⟩ := split_inv hx hs h0 hr
   ·obtain ⟨j, m, a, b, c⟩ := h1.fwd _ _ _ h
    obtain ⟨j', m', a', b', c'⟩ := ih m (by omega) j e c
    exact ⟨j', m', by omega, .cons b b', c'⟩
   ·exact ⟨i, k, by omega, .nil, h⟩
 ·induction hr with
  | nil => exact ⟨_, .spB hs h0 hm⟩
  | cons a b ih =>
   obtain ⟨k, h⟩ := ih hm
   obtain ⟨k2, h2⟩ := h1.bwd _ _ _ _ a h
   exact ⟨_, .spA hs h0 h2⟩
section
variable (ch : Nat → Nat) (N : Nat) (w : RSet) (ks : List RNode)
theorem Mt_1 : Mt ch N ⟨1, w, ks⟩ = fun i j => i < N ∧ bitS w (ch i) = true ∧ j = i + 1 := by (conv => lhs; unfold Mt); rfl
theorem Mt_7 : Mt ch N ⟨7, w, ks⟩ = fun i j => i = 0 ∧ j = i := by (conv => lhs; unfold Mt); rfl
theorem Mt_8 : Mt ch N ⟨8, w, ks⟩ = fun i j => i = N ∧ j = i := by (conv => lhs; unfold Mt); rfl
theorem Mt_2 : Mt ch N ⟨2, w, ks⟩ = MtC ch N ks := by (conv => lhs; unfold Mt); rfl
theorem Mt_3 : Mt ch N ⟨3, w, ks⟩ = MtA ch N ks := by (conv => lhs; unfold Mt); rfl
theorem Mt_4 : Mt ch N ⟨4, w, ks⟩ = Star (MtH ch N ks) := by (conv => lhs; unfold Mt); rfl
theorem Mt_5 : Mt ch N ⟨5, w, ks⟩ = fun i j => ∃ m, MtH ch N ks i m ∧ Star (MtH ch N ks) m j := by (conv => lhs; unfold Mt); rfl
theorem Mt_6 : Mt ch N ⟨6, w, ks⟩ = fun i j => MtH ch N ks i j ∨ j = i := by (conv => lhs; unfold Mt); rfl
theorem Mt_0 {op : Int} (h : op ≠ 1 ∧ op ≠ 7 ∧ op ≠ 8 ∧ op ≠ 2 ∧ op ≠ 3 ∧ op ≠ 4 ∧ op ≠ 5 ∧ op ≠ 6) : Mt ch N ⟨op, w, ks⟩ = fun i j => j = i := by
 unfold Mt
 funext i j
 rw [if_neg h.1, if_neg h.2.1, if_neg h.2.2.1, if_neg h.2.2.2.1, if_neg h.2.2.2.2.1, if_neg h.2.2.2.2.2.1, if_neg h.2.2.2.2.2.2.1, if_neg h.2.2.2.2.2.2.2]
end
theorem On.last {a b : Nat} {y : List MSt} {s : MSt} (h : On L a b (y ++ [s])) (ha : a ≤ y.length) (hb : y.length < b) : L[y.length]? = some s := by rw [h _ ha hb]; simp
mutual
theorem bld_does : ∀ (n : RNode) (tz : Nat) (l : List MSt), Wf n → 0 < l.length → tz < l.length → On L l.length (bld n tz l).2.length (bld n tz l).2 → Does L ch N (Mt ch N n) (bld n tz l).1 tz
 | ⟨op, w, ks⟩, tz, l, hw, h0, ht, ho => by
  unfold Wf at hw
  obtain ⟨hk, h3, h4⟩ := hw
  rcases op_cases op with rfl | rfl | rfl | rfl | rfl | rfl | rfl | rfl | h
  ·rw [bld_1] at ho ⊢; rw [Mt_1]
   exact does_one (by first | omega | (simp only; omega)) (ho.last (Nat.le_refl _) (by simp)) rfl
  ·rw [bld_7] at ho ⊢; rw [Mt_7]
   exact does_beg (by first | omega | (simp only; omega)) (ho.last (Nat.le_refl _) (by simp)) rfl
  ·rw [bld_8] at ho ⊢; rw [Mt_8]
   exact does_fin (by first | omega | (simp only; omega)) (ho.last (Nat.le_refl _) (by simp)) rfl
  ·rw [bld_2] at ho ⊢; rw [Mt_2]; exact bldC_does ks tz l hk h0 ht ho
  ·rw [bld_3] at ho ⊢; rw [Mt_3]; exact bldA_does ks tz l hk (h3 rfl) h0 ht ho
  ·rw [bld_4] at ho ⊢; rw [Mt_4]
   exact (star_does ks tz l hk (h4 (by omega)) h0 ht ho).2
  ·rw [bld_5] at ho ⊢; rw [Mt_5]
   have h := star_does ks tz l hk (h4 (by omega)) h0 ht ho
   exact h.1.comp h.2
  ·rw [bld_6] at ho ⊢; rw [Mt_6]
   have hb := bldH_bd ks tz l hk (h4 (by omega)) ht
   have hs := ho.last (by rw [hb.len]; omega) (by simp)
   have h1 := bldH_does ks tz l hk (h4 (by omega)) h0 ht ((ho.mono (Nat.le_refl _) (by simp)).old (Bd.add _ _) (Nat.le_refl _))
   exact does_split (by have := hb.len; simp only; omega) hs rfl h1 (Does.id _)
  ·rw [bld_0 _ _ _ _ h, Mt_0 _ _ _ _ h]; exact Does.id _
theorem bldC_does : ∀ (ks : List RNode) (tz : Nat) (l : List MSt), WfL ks → 0 < l.length → tz < l.length → On L l.length (bldC ks tz l).2.length (bldC ks tz l).2 → Does L ch N (MtC ch N ks) (bldC ks tz l).1 tz
 | [], tz, l, _, h0, ht, ho => by unfold bldC; unfold MtC; exact Does.id _
 | k :: ks, tz, l, hw, h0, ht, ho => by
  unfold WfL at hw
  have hb := bldC_bd ks tz l hw.2 ht
  have hb2 := bld_bd k (bldC ks tz l).1 (bldC ks tz l).2 hw.1 hb.lt
  unfold bldC at ho ⊢
  unfold MtC
  have h1 := bldC_does ks tz l hw.2 h0 ht ((ho.mono (Nat.le_refl _) (by rw [hb2.len]; omega)).old hb2 (Nat.le_refl _))
  have h2 := bld_does k (bldC ks tz l).1 (bldC ks tz l).2 hw.1 (by rw [hb.len]; omega) hb.lt (ho.mono (by rw [hb.len]; omega) (Nat.le_refl _))
  exact h2.comp h1
theorem bldA_does : ∀ (ks : List RNode) (tz : Nat) (l : List MSt), WfL ks → ks ≠ [] → 0 < l.length → tz < l.length → On L l.length (bldA ks tz l).2.length (bldA ks tz l).2 → Does L ch N (MtA ch N ks) (bldA ks tz l).1 tz
 | [], tz, l, _, hn, h0, ht, ho => absurd rfl hn
 | k :: ks, tz, l, hw, hn, h0, ht, ho => by
  unfold WfL at hw
  unfold bldA at ho ⊢
  unfold MtA
  by_cases hks : ks = []
  ·simp only [if_pos hks] at ho ⊢
   subst hks
   refine (bld_does k tz l hw.1 h0 ht ho).congr (fun i j => ?_)
   unfold MtA
   simp
  ·simp only [if_neg hks] at ho ⊢
   have hb := bldA_bd ks tz l hw.2 hks ht
   have hb2 := bld_bd k tz (bldA ks tz l).2 hw.1 (by rw [hb.len]; omega)
   have e1 := hb.len
   have e2 := hb2.len
   have hs := ho.last (by omega) (by simp)
   have hold := (ho.mono (Nat.le_refl _) (by simp)).old (Bd.add (bld k tz (bldA ks tz l).2).2 _) (Nat.le_refl _)
   have h2 := bld_does k tz (bldA ks tz l).2 hw.1 (by omega) (by omega) (hold.mono (by omega) (Nat.le_refl _))
   have h1 := bldA_does ks tz l hw.2 hks h0 ht ((hold.mono (Nat.le_refl _) (by omega)).old hb2 (Nat.le_refl _))
   exact does_split (by first | omega | (simp only; omega)) hs rfl h2 h1
theorem bldH_does : ∀ (ks : List RNode) (tz : Nat) (l : List MSt), WfL ks → ks ≠ [] → 0 < l.length → tz < l.length → On L l.length (bldH ks tz l).2.length (bldH ks tz l).2 → Does L ch N (MtH ch N ks) (bldH ks tz l).1 tz
 | [], tz, l, _, hn, h0, ht, ho => absurd rfl hn
 | k :: ks, tz, l, hw, hn, h0, ht, ho => by
  unfold WfL at hw
  unfold bldH at ho ⊢
  unfold MtH
  exact bld_does k tz l hw.1 h0 ht ho
theorem star_does : ∀ (ks : List RNode) (tz : Nat) (l : List MSt), WfL ks → ks ≠ [] → 0 < l.length → tz < l.length →
  On L l.length ((bldH ks l.length (l ++ [⟨1, zW, 0, (tz : Int)⟩])).2.set l.length ⟨1, zW, ((bldH ks l.length (l ++ [⟨1, zW, 0, (tz : Int)⟩])).1 : Int), (tz : Int)⟩).length ((bldH ks l.length (l ++ [⟨1, zW, 0, (tz : Int)⟩])).2.set l.length ⟨1, zW, ((bldH ks l.length (l ++ [⟨1, zW, 0, (tz : Int)⟩])).1 : Int), (tz : Int)⟩) →
  Does L ch N (MtH ch N ks) (bldH ks l.length (l ++ [⟨1, zW, 0, (tz : Int)⟩])).1 l.length ∧ Does L ch N (Star (MtH ch N ks)) l.length tz
 | [], tz, l, _, hn, h0, ht, ho => absurd rfl hn
 | k :: ks, tz, l, hw, hn, h0, ht, ho => by
  unfold WfL at hw
  unfold bldH at ho ⊢
  unfold MtH
  have hb := bld_bd k l.length (l ++ [⟨1, zW, 0, (tz : Int)⟩]) hw.1 (by simp)
  have e := hb.len
  simp only [List.length_append, List.length_cons, List.length_nil] at e
  rw [List.length_set] at ho
  have hs := ho l.length (Nat.le_refl _) (by omega)
  rw [List.getElem?_set_self (by omega)] at hs
  have h1 := bld_does k l.length (l ++ [⟨1, zW, 0, (tz : Int)⟩]) hw.1 (by simp) (by simp) (fun x hx hx' => by
   simp only [List.length_append, List.length_cons, List.length_nil] at hx
   rw [ho x (by omega) hx', List.getElem?_set_ne (by omega)])
  exact ⟨h1, does_star (s := ⟨1, zW, ((bld k l.length (l ++ [⟨1, zW, 0, (tz : Int)⟩])).1 : Int), (tz : Int)⟩) (by omega) hs rfl (by simpa only [Int.toNat_natCast] using h1)⟩
end
def InR (b : Nat) (s : MSt) : Prop := 0 ≤ s.f2 ∧ s.f2 < (b : Int) ∧ 0 ≤ s.f3 ∧ s.f3 < (b : Int)
def Tg (l : List MSt) : Prop := ∀ s ∈ l, InR l.length s
theorem InR.mono {a b : Nat} {s : MSt} (h : InR a s) (hb : a ≤ b) : InR b s := ⟨h.1, by have := h.2.1; omega, h.2.2.1, by have := h.2.2.2; omega⟩
theorem Tg.add {l : List MSt} {s : MSt} (h : Tg l) (hs : InR (l.length + 1) s) : Tg (l ++ [s]) := by
 intro x hx
 rw [List.length_append]
 rcases List.mem_append.1 hx with hx | hx
 ·exact (h x hx).mono (Nat.le_add_right _ _)
 ·rw [List.mem_singleton.1 hx]; exact hs
theorem Tg.set {l : List MSt} {s : MSt} {k : Nat} (h : Tg l) (hs : InR l.length s) : Tg (l.set k s) := by
 intro x hx
 rw [List.length_set]
 rcases List.mem_or_eq_of_mem_set hx with hx | hx
 ·exact h x hx
 ·rw [hx]; exact hs
mutual
theorem bld_tg : ∀ (n : RNode) (tz : Nat) (l : List MSt), Wf n → tz < l.length → Tg l → Tg (bld n tz l).2
 | ⟨op, w, ks⟩, tz, l, hw, ht, hl => by
  have hbd := bld_bd ⟨op, w, ks⟩ tz l hw ht
  unfold Wf at hw
  obtain ⟨hk, h3, h4⟩ := hw
  rcases op_cases op with rfl | rfl | rfl | rfl | rfl | rfl | rfl | rfl | h
  ·rw [bld_1]; exact hl.add (by unfold InR; simp only; omega)
  ·rw [bld_7]; exact hl.add (by unfold InR; simp only; omega)
  ·rw [bld_8]; exact hl.add (by unfold InR; simp only; omega)
  ·rw [bld_2]; exact bldC_tg ks tz l hk ht hl
  ·rw [bld_3]; exact bldA_tg ks tz l hk (h3 rfl) ht hl
  ·rw [bld_4]
   exact star_tg ks tz l hk (h4 (by omega)) ht hl
  ·rw [bld_5]
   exact star_tg ks tz l hk (h4 (by omega)) ht hl
  ·rw [bld_6]
   have hb := bldH_bd ks tz l hk (h4 (by omega)) ht
   have h1 := bldH_tg ks tz l hk (h4 (by omega)) ht hl
   exact h1.add (by unfold InR; have a := hb.lt; have b := hb.len; simp only; omega)
  ·rw [bld_0 _ _ _ _ h]; exact hl
theorem bldC_tg : ∀ (ks : List RNode) (tz : Nat) (l : List MSt), WfL ks → tz < l.length → Tg l → Tg (bldC ks tz l).2
 | [], tz, l, _, ht, hl => by unfold bldC; exact hl
 | k :: ks, tz, l, hw, ht, hl => by
  unfold WfL at hw
  have hb := bldC_bd ks tz l hw.2 ht
  unfold bldC
  exact bld_tg k _ _ hw.1 hb.lt (bldC_tg ks tz l hw.2 ht hl)
theorem bldA_tg : ∀ (ks : List RNode) (tz : Nat) (l : List MSt), WfL ks → ks ≠ [] → tz < l.length → Tg l → Tg (bldA ks tz l).2
 | [], tz, l, _, hn, ht, hl => absurd rfl hn
 | k :: ks, tz, l, hw, hn, ht, hl => by
  unfold WfL at hw
  unfold bldA
  by_cases hks : ks = []
  ·simp only [if_pos hks]; exact bld_tg k tz l hw.1 ht hl
  ·simp only [if_neg hks]
   have hb := bldA_bd ks tz l hw.2 hks ht
   have e1 := hb.len
   have e2 := hb.lt
   have hb2 := bld_bd k tz (bldA ks tz l).2 hw.1 (by omega)
   have e3 := hb2.len
   have e4 := hb2.lt
   exact (bld_tg k tz _ hw.1 (by omega) (bldA_tg ks tz l hw.2 hks ht hl)).add (by unfold InR; simp only; omega)
theorem bldH_tg : ∀ (ks : List RNode) (tz : Nat) (l : List MSt), WfL ks → ks ≠ [] → tz < l.length → Tg l → Tg (bldH ks tz l).2
 | [], tz, l, _, hn, ht, hl => absurd rfl hn
 | k :: ks, tz, l, hw, hn, ht, hl => by
  unfold WfL at hw
  unfold bldH
  exact bld_tg k tz l hw.1 ht hl
theorem star_tg : ∀ (ks : List RNode) (tz : Nat) (l : List MSt), WfL ks → ks ≠ [] → tz < l.length → Tg l → Tg ((bldH ks l.length (l ++ [⟨1, zW, 0, (tz : Int)⟩])).2.set l.length ⟨1, zW, ((bldH ks l.length (l ++ [⟨1, zW, 0, (tz : Int)⟩])).1 : Int), (tz : Int)⟩)
 | [], tz, l, _, hn, ht, hl => absurd rfl hn
 | k :: ks, tz, l, hw, hn, ht, hl => by
  unfold WfL at hw
  unfold bldH
  have hb := bld_bd k l.length (l ++ [⟨1, zW, 0, (tz : Int)⟩]) hw.1 (by simp)
  have e1 := hb.len
  have e2 := hb.lt
  simp only [List.length_append, List.length_cons, List.length_nil] at e1
  exact (bld_tg k l.length _ hw.1 (by simp) (hl.add (by unfold InR; simp only; omega))).set (by unfold InR; simp only; omega)
end
def start0 : List MSt := [⟨4, zW, 0, 0⟩]
def comp (n : RNode) : Nat × List MSt := bld n 0 start0
theorem comp_tg (n : RNode) (h : Wf n) : Tg (comp n).2 := bld_tg n 0 start0 h (by decide) (by intro s hs; rw [List.mem_singleton.1 hs]; exact ⟨by decide, by decide, by decide, by decide⟩)
theorem comp_bd (n : RNode) (h : Wf n) : Bd start0 (cnt n) (comp n) := bld_bd n 0 start0 h (by decide)
theorem comp_0 (n : RNode) (h : Wf n) : (comp n).2[0]? = some ⟨4, zW, 0, 0⟩ := by rw [(comp_bd n h).pre 0 (by decide)]; rfl
theorem rn_zero (n : RNode) (h : Wf n) {k i e : Nat} (hr : Rn (comp n).2 ch N k 0 i e) : i = e := by
 have h0 := comp_0 n h
 cases hr with
 | done => rfl
 | one h a => rw [h0] at h; cases h; simp at a
 | spA h a => rw [h0] at h; cases h; simp at a
 | spB h a => rw [h0] at h; cases h; simp at a
 | beg h a => rw [h0] at h; cases h; simp at a
 | fin h a => rw [h0] at h; cases h; simp at a
theorem comp_met (n : RNode) (h : Wf n) (i e : Nat) : (∃ k, Rn (comp n).2 ch N k (comp n).1 i e) ↔ Mt ch N n i e := by
 have hd := bld_does (L := (comp n).2) (ch := ch) (N := N) n 0 start0 h (by decide) (by decide) (fun _ _ _ => rfl)
 constructor
 ·rintro ⟨k, hk⟩
  obtain ⟨j, m, _, h1, h2⟩ := hd.fwd _ _ _ hk
  rw [← rn_zero n h h2]; exact h1
 ·intro hm
  exact hd.bwd i e 0 e hm .done
def Ep (L : List MSt) (N p x y : Nat) : Prop := ∃ s, L[x]? = some s ∧ ((s.f0 = 1 ∧ (y = s.f2.toNat ∨ y = s.f3.toNat)) ∨ (s.f0 = 2 ∧ p = 0 ∧ y = s.f2.toNat) ∨ (s.f0 = 3 ∧ p = N ∧ y = s.f2.toNat))
inductive Rc (L : List MSt) (ch : Nat → Nat) (N x0 s : Nat) : Nat → Nat → Prop
 | here : Rc L ch N x0 s x0 s
 | eps {x y i : Nat} : Rc L ch N x0 s x i → Ep L N i x y → Rc L ch N x0 s y i
 | chr {x i : Nat} {q : MSt} : Rc L ch N x0 s x i → L[x]? = some q → q.f0 = 0 → i < N → bitS q.f1 (ch i) = true → Rc L ch N x0 s q.f2.toNat (i + 1)
theorem Rc.le {x0 s x i : Nat} (h : Rc L ch N x0 s x i) : s ≤ i := by induction h <;> omega
theorem Rc.leN {x0 s x i : Nat} (h : Rc L ch N x0 s x i) (hs : s ≤ N) : i ≤ N := by induction h <;> omega
theorem rc_of_rn {x0 s x i k e : Nat} (hr : Rn L ch N k x i e) : Rc L ch N x0 s x i → Rc L ch N x0 s 0 e := by
 induction hr with
 | done => exact fun h => h
 | one h a b c _ ih => exact fun hh => ih (.chr hh h a b c)
 | spA h a _ ih => exact fun hh => ih (.eps hh ⟨_, h, .inl ⟨a, .inl rfl⟩⟩)
 | spB h a _ ih => exact fun hh => ih (.eps hh ⟨_, h, .inl ⟨a, .inr rfl⟩⟩)
 | beg h a _ ih => exact fun hh => ih (.eps hh ⟨_, h, .inr (.inl ⟨a, rfl, rfl⟩)⟩)
 | fin h a _ ih => exact fun hh => ih (.eps hh ⟨_, h, .inr (.inr ⟨a, rfl, rfl⟩)⟩)
theorem rn_of_rc {x0 s x i : Nat} (h : Rc L ch N x0 s x i) : ∀ k e, Rn L ch N k x i e → ∃ k', Rn L ch N k' x0 s e := by
 induction h with
 | here => exact fun k e h => ⟨k, h⟩
 | eps _ he ih =>
  intro k e hr
  obtain ⟨q, hq, ⟨a, rfl | rfl⟩ | ⟨a, rfl, rfl⟩ | ⟨a, rfl, rfl⟩⟩ := he
  ·exact ih _ _ (.spA hq a hr)
  ·exact ih _ _ (.spB hq a hr)
  ·exact ih _ _ (.beg hq a hr)
  ·exact ih _ _ (.fin hq a hr)
 | chr _ hq a b c ih => exact fun k e hr => ih _ _ (.one hq a b c hr)
theorem comp_rc (n : RNode) (h : Wf n) (i e : Nat) : Rc (comp n).2 ch N (comp n).1 i 0 e ↔ Mt ch N n i e := by
 rw [← comp_met n h]
 exact ⟨fun hr => rn_of_rc hr 0 e .done, fun ⟨k, hk⟩ => rc_of_rn hk .here⟩
def nw (l : List Int) (x : Nat) : Int := l.getD x 0
theorem nw_set {l : List Int} {k x : Nat} {v : Int} (hk : k < l.length) : nw (l.set k v) x = if x = k then v else nw l x := by
 unfold nw
 rw [List.getD_eq_getElem?_getD, List.getD_eq_getElem?_getD, List.getElem?_set]
 by_cases h : x = k
 ·rw [if_pos h, if_pos h.symm, if_pos hk]; rfl
 ·rw [if_neg h, if_neg (fun e => h e.symm)]
structure CloS (L : List MSt) (N p : Nat) (st : Int) (now : List Int) (a : Nat) (now' : List Int) : Prop where
 len : now'.length = now.length
 old : ∀ x, nw now' x = nw now x ∨ (st < nw now x ∧ nw now' x = st ∧ ∀ P : Nat → Prop, P a → (∀ x y, P x → Ep L N p x y → P y) → P x)
 hit : nw now' a ≤ st
 clo : ∀ x y, st < nw now x → nw now' x ≤ st → Ep L N p x y → nw now' y ≤ st
theorem CloS.le {p : Nat} {st : Int} {now now' : List Int} {a : Nat} (h : CloS L N p st now a now') (x : Nat) : nw now' x ≤ nw now x := by
 rcases h.old x with h | ⟨h, h', _⟩ <;> omega
theorem CloS.keep {p : Nat} {st : Int} {now now' : List Int} {a : Nat} (h : CloS L N p st now a now') {x : Nat} (hx : nw now x ≤ st) : nw now' x ≤ st := Int.le_trans (h.le x) hx
theorem CloS.was {p : Nat} {st : Int} {now : List Int} {a : Nat} (h : nw now a ≤ st) : CloS L N p st now a now := ⟨rfl, fun x => .inl rfl, h, fun x y h1 h2 => by omega⟩
theorem CloS.leaf {p : Nat} {st : Int} {now : List Int} {a : Nat} (h : st < nw now a) (ha : a < now.length) (hE : ∀ y, ¬ Ep L N p a y) : CloS L N p st now a (now.set a st) := by
 refine ⟨by simp, fun x => ?_, by rw [nw_set ha, if_pos rfl]; exact Int.le_refl _, fun x y h1 h2 he => ?_⟩
 ·rw [nw_set ha]
  by_cases e : x = a
  ·subst e; rw [if_pos rfl]; exact .inr ⟨h, rfl, fun P hp _ => hp⟩
  ·rw [if_neg e]; exact .inl rfl
 ·rw [nw_set ha] at h2
  by_cases e : x = a
  ·subst e; exact absurd he (hE y)
  ·rw [if_neg e] at h2; omega
theorem CloS.one {p : Nat} {st : Int} {now now' : List Int} {a b : Nat} (h : st < nw now a) (ha : a < now.length) (hab : Ep L N p a b) (hE : ∀ y, Ep L N p a y → y = b) (k : CloS L N p st (now.set a st) b now') : CloS L N p st now a now' := by
 have hs : ∀ x, nw (now.set a st) x = if x = a then st else nw now x := fun x => nw_set ha
 have hat : nw now' a ≤ st := k.keep (by rw [hs, if_pos rfl]; exact Int.le_refl _)
 refine ⟨by rw [k.len]; simp, fun x => ?_, hat, fun x y h1 h2 he => ?_⟩
 ·by_cases e : x = a
  ·subst e
   refine .inr ⟨h, ?_, fun P hp _ => hp⟩
   rcases k.old x with h' | ⟨_, h', _⟩
   ·rw [h', hs, if_pos rfl]
   ·exact h'
  ·rcases k.old x with h' | ⟨h1, h', h2⟩
   ·rw [h', hs, if_neg e]; exact .inl rfl
   ·rw [hs, if_neg e] at h1
    exact .inr ⟨h1, h', fun P hp hc => h2 P (hc _ _ hp hab) hc⟩
 ·by_cases e : x = a
  ·subst e; rw [hE y he]; exact k.hit
  ·exact k.clo x y (by rw [hs, if_neg e]; exact h1) h2 he
theorem CloS.two {p : Nat} {st : Int} {now n1 n2 : List Int} {a b c : Nat} (h : st < nw now a) (ha : a < now.length) (hab : Ep L N p a b) (hac : Ep L N p a c) (hE : ∀ y, Ep L N p a y → y = b ∨ y = c) (k : CloS L N p st (now.set a st) b n1) (k2 : CloS L N p st n1 c n2) : CloS L N p st now a n2 := by
 have hs : ∀ x, nw (now.set a st) x = if x = a then st else nw now x := fun x => nw_set ha
 have hat : nw n2 a ≤ st := k2.keep (k.keep (by rw [hs, if_pos rfl]; exact Int.le_refl _))
 refine ⟨by rw [k2.len, k.len]; simp, fun x => ?_, hat, fun x y h1 h2 he => ?_⟩
 ·by_cases e : x = a
  ·subst e
   refine .inr ⟨h, ?_, fun P hp _ => hp⟩
   have h1 : nw n1 x = st := by
    rcases k.old x with h' | ⟨_, h', _⟩
    ·rw [h', hs, if_pos rfl]
    ·exact h'
   rcases k2.old x with h' | ⟨_, h', _⟩
   ·rw [h', h1]
   ·exact h'
  ·rcases k2.old x with h' | ⟨h1, h', h2⟩
   ·rcases k.old x with h'' | ⟨h1'', h'', h2''⟩
    ·rw [h', h'', hs, if_neg e]; exact .inl rfl
    ·rw [hs, if_neg e] at h1''
     exact .inr ⟨h1'', by rw [h', h''], fun P hp hc => h2'' P (hc _ _ hp hab) hc⟩
   ·refine .inr ⟨?_, h', fun P hp hc => h2 P (hc _ _ hp hac) hc⟩
    have := k.le x
    rw [hs, if_neg e] at this
    omega
 ·by_cases e : x = a
  ·subst e
   rcases hE y he with rfl | rfl
   ·exact k2.keep k.hit
   ·exact k2.hit
  ·by_cases h3 : nw n1 x ≤ st
   ·exact k2.keep (k.clo x y (by rw [hs, if_neg e]; exact h1) h3 he)
   ·exact k2.clo x y (by omega) h2 he
theorem Ep.lt {L : List MSt} {N p x y : Nat} (h : Ep L N p x y) (ht : Tg L) : y < L.length := by
 obtain ⟨s, hs, h⟩ := h
 obtain ⟨h0, h1, h2, h3⟩ := ht s (List.mem_of_getElem? hs)
 rcases h with ⟨_, rfl | rfl⟩ | ⟨_, _, rfl⟩ | ⟨_, _, rfl⟩ <;> omega
theorem Rc.lt {L : List MSt} {ch : Nat → Nat} {N x0 s x i : Nat} (h : Rc L ch N x0 s x i) (ht : Tg L) (h0 : x0 < L.length) : x < L.length := by
 cases h with
 | here => exact h0
 | eps _ he => exact he.lt ht
 | chr _ hq => obtain ⟨a, b, _⟩ := ht _ (List.mem_of_getElem? hq); omega
abbrev NO : Int := 1099511627776
section
variable (L : List MSt) (ch : Nat → Nat) (N x0 from_ : Nat)
def Best (i : Nat) (a b : Int) : Prop :=
 (a = NO ∧ ∀ s e, from_ ≤ s → e < i → ¬ Rc L ch N x0 s 0 e) ∨
  ∃ s t : Nat, a = (s : Int) ∧ b = (t : Int) ∧ from_ ≤ s ∧ s ≤ t ∧ t < i ∧ Rc L ch N x0 s 0 t ∧ ∀ s' e, from_ ≤ s' → e < i → Rc L ch N x0 s' 0 e → s < s' ∨ (s = s' ∧ e ≤ t)
structure Come (i m : Nat) (a : Int) (now : List Int) : Prop where
 len : now.length = L.length
 snd : ∀ x, x < L.length → nw now x = NO ∨ ∃ s : Nat, nw now x = (s : Int) ∧ from_ ≤ s ∧ s < m ∧ Rc L ch N x0 s x i
 cpl : ∀ s x, from_ ≤ s → s < m → (s : Int) ≤ a → Rc L ch N x0 s x i → nw now x ≤ (s : Int)
def On1 (i : Nat) (a : Int) (now : List Int) (x : Nat) : Prop := nw now x ≤ a ∧ nw now x < NO ∧ ∃ q, L[x]? = some q ∧ q.f0 = 0 ∧ bitS q.f1 (ch i) = true
structure Next (i : Nat) (a : Int) (now next : List Int) (any : Bool) (q : Nat) : Prop where
 len : next.length = L.length
 snd : ∀ y, y < L.length → nw next y = NO ∨ ∃ s : Nat, nw next y = (s : Int) ∧ from_ ≤ s ∧ s < i + 1 ∧ Rc L ch N x0 s y (i + 1)
 cpl : ∀ x qs, x < q → On1 L ch i a now x → L[x]? = some qs → nw next qs.f2.toNat ≤ nw now x
 clo : ∀ y z, Ep L N (i + 1) y z → nw next y < NO → nw next z ≤ nw next y
 any : any = false → a ≠ NO ∧ ∀ x, x < q → ¬ On1 L ch i a now x
end
section
variable {x0 from_ i : Nat} {a b : Int} {now now1 next next1 : List Int} (ht : Tg L) (h0 : x0 < L.length)
include ht h0
theorem Come.begin (h : Come L ch N x0 from_ i i a now) (ha : a = NO) (hN : i ≤ N) (hb : N < 1000000) (hf : from_ ≤ i) (hc : CloS L N i (i : Int) now x0 now1) : Come L ch N x0 from_ i (i + 1) a now1 := by
 have low : ∀ x, x < L.length → nw now x < NO → nw now x < (i : Int) := by
  intro x hx hl
  rcases h.snd x hx with e | ⟨s, e, _, hs, _⟩
  ·rw [e] at hl; exact absurd hl (Int.lt_irrefl _)
  ·omega
 refine ⟨hc.len.trans h.len, fun x hx => ?_, fun s x hs1 hs2 hsa hr => ?_⟩
 ·rcases hc.old x with e | ⟨h1, e, h2⟩
  ·rw [e]
   rcases h.snd x hx with e | ⟨s, e, h1, h2, h3⟩
   ·exact .inl e
   ·exact .inr ⟨s, e, h1, by omega, h3⟩
  ·exact .inr ⟨i, e, hf, by omega, h2 (fun y => Rc L ch N x0 i y i) .here (fun y z hy he => .eps hy he)⟩
 ·by_cases hsi : s < i
  ·exact Int.le_trans (hc.le x) (h.cpl s x hs1 hsi hsa hr)
  ·obtain rfl : s = i := by omega
   have key : ∀ {y j : Nat}, Rc L ch N x0 s y j → j = s → nw now1 y ≤ (s : Int) := by
    intro y j hy
    induction hy with
    | here => exact fun _ => hc.hit
    | @eps y z j hy he ih =>
     rintro rfl
     have iy := ih rfl
     have hyl := hy.lt ht h0
     by_cases hn : (j : Int) < nw now y
     ·exact hc.clo y z hn iy he
     ·have hlt := low y hyl (by show nw now y < 1099511627776; omega)
      rcases h.snd y hyl with e | ⟨s', e, h1, h2, h3⟩
      ·rw [e] at hlt; exfalso; have : (1099511627776 : Int) < j := hlt; omega
      ·have := h.cpl s' z h1 h2 (by rw [ha]; show (s' : Int) ≤ 1099511627776; omega) (.eps h3 he)
       have := hc.le z
       omega
    | chr hy _ _ _ _ ih => rintro rfl; have := hy.le; omega
   exact key hr rfl
omit ht h0 in
theorem Come.later (h : Come L ch N x0 from_ i i a now) (ha : a < (i : Int)) : Come L ch N x0 from_ i (i + 1) a now := by
 refine ⟨h.len, fun x hx => ?_, fun s x hs1 hs2 hsa hr => h.cpl s x hs1 (by omega) hsa hr⟩
 rcases h.snd x hx with e | ⟨s, e, h1, h2, h3⟩
 ·exact .inl e
 ·exact .inr ⟨s, e, h1, by omega, h3⟩
omit ht in
theorem Best.better (h : Best L ch N x0 from_ i a b) (hc : Come L ch N x0 from_ i (i + 1) a now) (hN : i ≤ N) (hb : N < 1000000) (hle : nw now 0 ≤ a) : Best L ch N x0 from_ (i + 1) (nw now 0) (i : Int) := by
 have h00 : 0 < L.length := by omega
 rcases hc.snd 0 h00 with e | ⟨s, e, h1, h2, h3⟩
 ·rw [e] at hle ⊢
  refine .inl ⟨rfl, fun s e' hs he hr => ?_⟩
  rcases h with ⟨ha, h⟩ | ⟨s0, t, ha, _, _, h4, h5, _⟩
  ·by_cases hei : e' < i
   ·exact h s e' hs hei hr
   ·obtain rfl : e' = i := by omega
    have hle' := hr.le
    have := hc.cpl s 0 hs (by omega) (by rw [ha]; show (s : Int) ≤ 1099511627776; omega) hr
    rw [e] at this
    have : (1099511627776 : Int) ≤ s := this
    omega
  ·have : (1099511627776 : Int) ≤ a := hle
   omega
 ·rw [e] at hle ⊢
  refine .inr ⟨s, i, rfl, rfl, h1, by omega, by omega, h3, fun s' e' hs he hr => ?_⟩
  have hle' := hr.le
  by_cases hei : e' < i
  ·rcases h with ⟨ha, h⟩ | ⟨s0, t, ha, _, _, h4, h5, _, h6⟩
   ·exact absurd hr (h s' e' hs hei)
   ·rcases h6 s' e' hs hei hr with h | ⟨h, h'⟩ <;> omega
  ·obtain rfl : e' = i := by omega
   by_cases hsa : (s' : Int) ≤ a
   ·have := hc.cpl s' 0 hs (by omega) hsa hr
    rw [e] at this
    omega
   ·omega
omit ht in
theorem Best.stays (h : Best L ch N x0 from_ i a b) (hc : Come L ch N x0 from_ i (i + 1) a now) (hN : i ≤ N) (hb : N < 1000000) (hle : ¬ nw now 0 ≤ a) : Best L ch N x0 from_ (i + 1) a b ∧ a ≠ NO := by
 have h00 : 0 < L.length := by omega
 have hno : nw now 0 ≤ NO := by
  rcases hc.snd 0 h00 with e | ⟨s, e, h1, h2, h3⟩
  ·rw [e]; exact Int.le_refl _
  ·rw [e]; show (s : Int) ≤ 1099511627776; omega
 rcases h with ⟨ha, h⟩ | ⟨s, t, ha, hbt, h1, h4, h5, h7, h6⟩
 ·rw [ha] at hle; exact absurd hno hle
 ·refine ⟨.inr ⟨s, t, ha, hbt, h1, h4, by omega, h7, fun s' e' hs he hr => ?_⟩, by rw [ha]; show (s : Int) ≠ 1099511627776; omega⟩
  have hle' := hr.le
  by_cases hei : e' < i
  ·exact h6 s' e' hs hei hr
  ·obtain rfl : e' = i := by omega
   by_cases hsa : (s' : Int) ≤ a
   ·have := hc.cpl s' 0 hs (by omega) hsa hr
    omega
   ·omega
omit ht h0 in
theorem Next.start {any : Bool} (hlen : next.length = L.length) (hn : ∀ y, y < L.length → nw next y = NO) (hz : ∀ y, L.length ≤ y → nw next y = 0) (hany : (decide (a = NO)) = any) (ht : Tg L) : Next L ch N x0 from_ i a now next any 0 := by
 refine ⟨hlen, fun y hy => .inl (hn y hy), fun x qs hx => by omega, fun y z he hl => ?_, fun e => ⟨fun ea => by rw [e, ea] at hany; simp at hany, fun x hx => by omega⟩⟩
 obtain ⟨s, hs, _⟩ := he
 have hy : y < L.length := (List.getElem?_eq_some_iff.1 hs).1
 rw [hn y hy] at hl
 exact absurd hl (Int.lt_irrefl _)
omit ht h0 in
theorem Next.step {any : Bool} {q : Nat} {qs : MSt} (h : Next L ch N x0 from_ i a now next any q) (hc : Come L ch N x0 from_ i (i + 1) a now) (hiN : i < N) (hq : L[q]? = some qs) (hon : On1 L ch i a now q) (hcl : CloS L N (i + 1) (nw now q) next qs.f2.toNat next1) : Next L ch N x0 from_ i a now next1 true (q + 1) := by
 have hql := (List.getElem?_eq_some_iff.1 hq).1
 obtain ⟨h1, h2, qs', hq', hk, hbit⟩ := hon
 rw [hq] at hq'
 obtain rfl := Option.some.inj hq'
 obtain ⟨s, es, hs1, hs2, hr⟩ : ∃ s : Nat, nw now q = (s : Int) ∧ from_ ≤ s ∧ s < i + 1 ∧ Rc L ch N x0 s q i := by
  rcases hc.snd q hql with e | h
  ·rw [e] at h2; exact absurd h2 (Int.lt_irrefl _)
  ·exact h
 have hr2 : Rc L ch N x0 s qs.f2.toNat (i + 1) := .chr hr hq hk hiN hbit
 refine ⟨hcl.len.trans h.len, fun y hy => ?_, fun x qx hx hox hqx => ?_, fun y z he hl => ?_, fun e => by cases e⟩
 ·rcases hcl.old y with e | ⟨_, e, h3⟩
  ·rw [e]; exact h.snd y hy
  ·exact .inr ⟨s, e.trans es, hs1, hs2, h3 (fun y => Rc L ch N x0 s y (i + 1)) hr2 (fun y z hy he => .eps hy he)⟩
 ·by_cases hxq : x < q
  ·exact Int.le_trans (hcl.le _) (h.cpl x qx hxq hox hqx)
  ·obtain rfl : x = q := by omega
   rw [hq] at hqx
   obtain rfl := Option.some.inj hqx
   exact hcl.hit
 ·by_cases hn : nw now q < nw next y
  ·by_cases h3 : nw next1 y ≤ nw now q
   ·rcases hcl.old y with e | ⟨_, e, _⟩
    ·omega
    ·rw [e]; exact hcl.clo y z hn h3 he
   ·rcases hcl.old y with e | ⟨_, e, _⟩
    ·rw [e] at hl ⊢
     exact Int.le_trans (hcl.le z) (h.clo y z he hl)
    ·omega
  ·rcases hcl.old y with e | ⟨h4, _⟩
   ·rw [e] at hl ⊢
    exact Int.le_trans (hcl.le z) (h.clo y z he hl)
   ·omega
omit ht h0 in
theorem Next.skip {any : Bool} {q : Nat} (h : Next L ch N x0 from_ i a now next any q) (hon : ¬ On1 L ch i a now q) : Next L ch N x0 from_ i a now next any (q + 1) := by
 refine ⟨h.len, h.snd, fun x qx hx hox hqx => ?_, h.clo, fun e => ⟨(h.any e).1, fun x hx => ?_⟩⟩
 ·by_cases hxq : x < q
  ·exact h.cpl x qx hxq hox hqx
  ·obtain rfl : x = q := by omega
   exact absurd hox hon
 ·by_cases hxq : x < q
  ·exact (h.any e).2 x hxq
  ·obtain rfl : x = q := by omega
   exact hon
theorem Next.come {any : Bool} (h : Next L ch N x0 from_ i a now next any L.length) (hc : Come L ch N x0 from_ i (i + 1) a now) (hN : i ≤ N) (hb : N < 1000000) : Come L ch N x0 from_ (i + 1) (i + 1) a next := by
 refine ⟨h.len, h.snd, fun s x hs1 hs2 hsa hr => ?_⟩
 have key : ∀ {y j : Nat}, Rc L ch N x0 s y j → j = i + 1 → nw next y ≤ (s : Int) := by
  intro y j hy
  induction hy with
  | here => rintro rfl; omega
  | @eps y z j hy he ih =>
   rintro rfl
   have iy := ih rfl
   exact Int.le_trans (h.clo y z he (by show nw next y < 1099511627776; omega)) iy
  | @chr x j q hx hq hk hj hbit ih =>
   intro e
   obtain rfl : j = i := by omega
   have hxl := hx.lt ht h0
   have hle := hc.cpl s x hs1 hs2 hsa hx
   exact Int.le_trans (h.cpl x q hxl ⟨by omega, by show nw now x < 1099511627776; omega, q, hq, hk, hbit⟩ hq) hle
 exact key hr rfl
theorem Next.over (h : Next L ch N x0 from_ i a now next false L.length) (hc : Come L ch N x0 from_ i (i + 1) a now) (hbst : Best L ch N x0 from_ (i + 1) a b) (hN : i ≤ N) (hb : N < 1000000) : Best L ch N x0 from_ (N + 1) a b := by
 obtain ⟨hne, hoff⟩ := h.any rfl
 rcases hbst with ⟨ha, _⟩ | ⟨s, t, ha, hbt, h1, h4, h5, h7, h6⟩
 ·exact absurd ha hne
 ·refine .inr ⟨s, t, ha, hbt, h1, h4, by omega, h7, fun s' e' hs he hr => ?_⟩
  by_cases hei : e' < i + 1
  ·exact h6 s' e' hs hei hr
  ·by_cases hsa : (s' : Int) ≤ a
   ·exfalso
    have key : ∀ {y j : Nat}, Rc L ch N x0 s' y j → i < j → False := by
     intro y j hy
     induction hy with
     | here => intro hj; omega
     | eps _ _ ih => exact ih
     | @chr x j q hx hq hk hj hbit ih =>
      intro hlt
      by_cases hj' : i < j
      ·exact ih hj'
      ·obtain rfl : j = i := by omega
       have hxl := hx.lt ht h0
       have hle := hc.cpl s' x hs (by have := hx.le; omega) hsa hx
       exact hoff x hxl ⟨by omega, by show nw now x < 1099511627776; omega, q, hq, hk, hbit⟩
    exact key hr (by omega)
   ·omega
end
def FindS (L : List MSt) (ch : Nat → Nat) (N x0 : Nat) (from_ : Int) (a b : Int) (ok : Bool) : Prop :=
 (ok = false ∧ a = 0 ∧ b = 0 ∧ ∀ s e : Nat, from_ ≤ (s : Int) → s ≤ N → 0 ≤ from_ → ¬ Rc L ch N x0 s 0 e) ∨
  (ok = true ∧ ∃ s t : Nat, a = (s : Int) ∧ b = (t : Int) ∧ 0 ≤ from_ ∧ from_ ≤ (s : Int) ∧ s ≤ t ∧ t ≤ N ∧ Rc L ch N x0 s 0 t ∧ ∀ s' e : Nat, from_ ≤ (s' : Int) → s' ≤ N → Rc L ch N x0 s' 0 e → s < s' ∨ (s = s' ∧ e ≤ t))
theorem Best.none {x0 from_ : Nat} {a b : Int} (h : Best L ch N x0 from_ (N + 1) a b) (ha : a = NO) (hb : N < 1000000) : FindS L ch N x0 (from_ : Int) 0 0 false := by
 rcases h with ⟨_, h⟩ | ⟨s, t, ha', _⟩
 ·exact .inl ⟨rfl, rfl, rfl, fun s e hs hN _ hr => h s e (by omega) (by have := hr.leN hN; omega) hr⟩
 ·exfalso
  rename_i h
  obtain ⟨_, _, _, h5, _⟩ := h
  rw [ha'] at ha
  have : (s : Int) = 1099511627776 := ha
  omega
theorem Best.some {x0 from_ : Nat} {a b : Int} (h : Best L ch N x0 from_ (N + 1) a b) (ha : a ≠ NO) : FindS L ch N x0 (from_ : Int) a b true := by
 rcases h with ⟨ha', _⟩ | ⟨s, t, ha', hb', h1, h2, h3, h4, h5⟩
 ·exact absurd ha' ha
 ·exact .inr ⟨rfl, s, t, ha', hb', by omega, by omega, h2, by omega, h4, fun s' e hs hN hr => h5 s' e (by omega) (by have := hr.leN hN; omega) hr⟩
end Go.Proofs.Ythlffghlkggimaa.Pr
