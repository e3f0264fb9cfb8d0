/- The trees that the laws grow: as plain functions; what the program's functions come to. -/
import Derived.Test.YtgkojnpbgkglgaaDoorPuA
import Derived.Test.YtgkojnpbgkglgaaDoorPuAsS
import Derived.Test.YtgkojnpbgkglgaaDoorPuAsP
import Derived.Test.YtgkojnpbgkglgaaDoorPr1
import Derived.Test.YtgkojnpbgkglgaaDoorPr2
import Derived.Test.YtgkojnpbgkglgaaDoorPr3
import Derived.Test.YtgkojnpbgkglgaaDoorPr4
set_option linter.unusedVariables false
namespace Go.Proofs.YtgkojnpbgkglgaaDoor.Pr
open Go Go.RowKit Go.Proofs.YtgkojnpbgkglgaaDoorW.PrintWords Go.Proofs.YtgkojnpbgkglgaaDoorW.PrintLast Go.Proofs.YtgkojnpbgkglgaaDoorW.PrintMore

abbrev APart := S42
abbrev RNode := S29
def rdP (l : List APart) (i : Nat) : APart := rd_T42 l (i : Int)
def upZ (l : List APart) (i : Nat) : Int := if (i : Int) = 0 then -1 else if Int.tmod (rdP l i).f3 i < 0 then wrap64 (-(Int.tmod (rdP l i).f3 i)) else Int.tmod (rdP l i).f3 i
def cutB (s : ByteArray) (n : Nat) : ByteArray := if (s.size : Int) > n then s.extract 0 n else s
theorem node_eta (n : ANode) : (⟨n.f0, n.f1, n.f2, n.f3⟩ : ANode) = n := by cases n; rfl
theorem cutB_ev (s : ByteArray) (n : Nat) : scribelaw01_Cut.f s (n : Int) = some (cutB s n) := by
  unfold scribelaw01_Cut.f cutB
  by_cases h : (s.size : Int) > n
  · rw [if_pos h, if_pos h, if_pos (by omega), if_pos (by omega), Int.toNat_natCast]
  · rw [if_neg h, if_neg h]
theorem cutB_size (s : ByteArray) (n : Nat) : (cutB s n).size ≤ n := by
  unfold cutB
  split
  · rw [ByteArray.size_extract]; omega
  · omega
theorem upZ_ev (l : List APart) (i : Nat) (hi : i < l.length) : scribelaw12_up.f l (i : Int) = some (upZ l i) := by
  unfold scribelaw12_up.f upZ
  by_cases h : (i : Int) = 0
  · rw [if_pos h, if_pos h]
  · rw [if_neg h, if_neg h, if_pos (by omega), if_pos (by omega)]
    unfold rdP
    split <;> rfl
/-- the parts from j on that are right below i -/
def below (l : List APart) (i j : Nat) : List Nat := (List.range' j (l.length - j)).filter fun k => upZ l k == (i : Int)
theorem below_end (l : List APart) (i j : Nat) (h : l.length ≤ j) : below l i j = [] := by
  unfold below
  rw [show l.length - j = 0 by omega]
  rfl
theorem below_step (l : List APart) (i j : Nat) (h : j < l.length) : below l i j = if upZ l j = (i : Int) then j :: below l i (j + 1) else below l i (j + 1) := by
  unfold below
  rw [show l.length - j = (l.length - (j + 1)) + 1 by omega, List.range'_succ]
  simp only [List.filter_cons, beq_iff_eq]
def growF (l : List APart) : Nat → Nat → ANode
  | 0, _ => z26
  | d + 1, i => ⟨cutB (rdP l i).f0 10, cutB (rdP l i).f1 20, (rdP l i).f2, (below l i (i + 1)).map (growF l d)⟩
theorem grow_ev (l : List APart) (hl : l.length ≤ 1000000) (d : Nat) : ∀ i, i < l.length → l.length - i ≤ d → Ev (fun k => scribelaw12_grow.f k l (i : Int)) ((growF l d i).f0, (growF l d i).f1, (growF l d i).f2, (growF l d i).f3) := by
  induction d with
  | zero => intro i h1 h2; omega
  | succ d ih =>
    intro i h1 h2
    have loop : ∀ (m j : Nat) (o t : ByteArray) (a : Int) (acc : List ANode), l.length - j = m → i < j → j ≤ l.length → acc.length ≤ j →
        Ev (fun k => scribelaw12_grow.l0 k l (i : Int) (j : Int) o t a acc) (o, t, a, acc ++ (below l i j).map (growF l d)) := by
      intro m
      induction m with
      | zero =>
        intro j o t a acc hm hij hj hacc
        refine Ev.succ ?_
        simp only [scribelaw12_grow.l0]
        rw [below_end l i j (by omega)]
        refine Ev.neg (by omega) ?_
        simpa using Ev.now _
      | succ m ihm =>
        intro j o t a acc hm hij hj hacc
        have hlt : j < l.length := by omega
        refine Ev.succ ?_
        simp only [scribelaw12_grow.l0]
        refine Ev.pos (by omega) (Ev.bindc (upZ_ev l j hlt) ?_)
        rw [below_step l i j hlt, w64 (by omega) (by omega)]
        by_cases h : upZ l j = (i : Int)
        · rw [if_pos h]
          refine Ev.pos h (Ev.bind' (ih j hlt (by omega)) ?_)
          refine Ev.pos (by omega) ?_
          have := ihm (j + 1) o t a (acc ++ [growF l d j]) (by omega) (by omega) (by omega) (by simp; omega)
          rw [show acc ++ (j :: below l i (j + 1)).map (growF l d) = (acc ++ [growF l d j]) ++ (below l i (j + 1)).map (growF l d) by simp]
          rw [show ((j : Int) + 1) = ((j + 1 : Nat) : Int) from rfl]
          simp only [node_eta]
          exact this
        · rw [if_neg h]
          refine Ev.neg h ?_
          exact ihm (j + 1) o t a acc (by omega) (by omega) (by omega) (by omega)
    refine Ev.succ ?_
    simp only [scribelaw12_grow.f]
    refine Ev.neg (by omega) (Ev.pos (by omega) (Ev.pos (by omega) (Ev.bindc (cutB_ev _ 10) (Ev.bindc (cutB_ev _ 20) ?_))))
    rw [w64 (by omega) (by omega)]
    have := loop (l.length - (i + 1)) (i + 1) (cutB (rdP l i).f0 10) (cutB (rdP l i).f1 20) (rdP l i).f2 [] rfl (by omega) (by omega) (by simp)
    simpa [growF, rdP] using this
mutual
/-- as the document's -/
def tlN : ANode → RNode
  | ⟨o, t, a, ks⟩ => ⟨o, t, a, tlL ks⟩
def tlL : List ANode → List RNode
  | [] => []
  | k :: r => tlN k :: tlL r
end
theorem tlN_eq (n : ANode) : tlN n = ⟨n.f0, n.f1, n.f2, tlL n.f3⟩ := by cases n; rw [tlN]
theorem tlL_map (l : List ANode) : tlL l = l.map tlN := by
  induction l with
  | nil => rw [tlL]; rfl
  | cons k r ih => rw [tlL, ih]; rfl
theorem rdA_get (l : List ANode) (i : Nat) (h : i < l.length) : rd_T26 l (i : Int) = l[i] := by simp [rd_T26, h]
theorem told_ev (sz : Nat) : ∀ n : ANode, sizeT n ≤ sz → sizeT n ≤ 1000000000000 → Ev (fun k => scribelaw12_told.f k n.f0 n.f1 n.f2 n.f3) (n.f0, n.f1, n.f2, tlL n.f3) := by
  induction sz with
  | zero => intro n h; have := allT_pos 0 n; unfold sizeT at h; omega
  | succ sz ih =>
    intro n hsz hb
    obtain ⟨o, t, a, ks⟩ := n
    have hlen : sizeT ⟨o, t, a, ks⟩ = (allKs 0 ks).length + 1 := by unfold sizeT; rw [allT_eq, List.length_cons]; simp only; rw [allKs_lend (0 + 1) 0]
    rw [hlen] at hsz hb
    have hkl := allKs_len 0 ks
    dsimp only
    have loop : ∀ (m i : Nat) (acc : List RNode), ks.length - i = m → i ≤ ks.length → acc.length = i →
        Ev (fun k => scribelaw12_told.l0 k ks (ks.length : Int) (i : Int) o t a acc) (o, t, a, acc ++ (ks.drop i).map tlN) := by
      intro m
      induction m with
      | zero =>
        intro i acc hm hi hacc
        refine Ev.succ ?_
        simp only [scribelaw12_told.l0]
        refine Ev.neg (by omega) ?_
        rw [List.drop_of_length_le (by omega)]
        simpa using Ev.now _
      | succ m ihm =>
        intro i acc hm hi hacc
        have hlt : i < ks.length := by omega
        have hk := kid_len i hlt 0
        refine Ev.succ ?_
        simp only [scribelaw12_told.l0]
        refine Ev.pos (by omega) (Ev.pos (by omega) (Ev.pos (by omega) ?_))
        rw [rdA_get ks i hlt]
        refine Ev.bind' (ih ks[i] (by unfold sizeT; omega) (by unfold sizeT; omega)) (Ev.pos (by omega) ?_)
        rw [w64 (by omega) (by omega)]
        have := ihm (i + 1) (acc ++ [tlN ks[i]]) (by omega) (by omega) (by simp; omega)
        rw [List.drop_eq_getElem_cons hlt, List.map_cons]
        simpa [List.append_assoc, tlN_eq] using this
    refine Ev.succ ?_
    simp only [scribelaw12_told.f]
    have := loop ks.length 0 [] rfl (by omega) rfl
    simpa [tlL_map] using this
/-- how large a grown tree is -/
theorem grow_size (l : List APart) (d : Nat) : ∀ i, i < l.length → sizeT (growF l d i) ≤ 2 ^ (l.length - i - 1) := by
  induction d with
  | zero => intro i h; have : 1 ≤ 2 ^ (l.length - i - 1) := Nat.one_le_two_pow; simpa [growF, sizeT, z26, allT, allKs] using this
  | succ d ih =>
    intro i h
    have loop : ∀ (m j : Nat), l.length - j = m → (allKs 0 ((below l i j).map (growF l d))).length + 1 ≤ 2 ^ m := by
      intro m
      induction m with
      | zero => intro j hm; rw [below_end l i j (by omega)]; simp [allKs]
      | succ m ihm =>
        intro j hm
        rw [below_step l i j (by omega)]
        have h1 := ihm (j + 1) (by omega)
        have h2 := ih j (by omega)
        unfold sizeT at h2
        rw [show l.length - j - 1 = m by omega] at h2
        rw [Nat.pow_succ]
        split
        · simp only [List.map_cons, allKs, List.length_append]; omega
        · omega
    have := loop (l.length - (i + 1)) (i + 1) rfl
    rw [growF, sizeT, allT_eq, List.length_cons]
    simp only
    rw [allKs_lend (0 + 1) 0, show l.length - i - 1 = l.length - (i + 1) by omega]
    exact this
/-- the tree of a list of parts -/
def treeP (l : List APart) : ANode := if (l.take 30).length = 0 then z26 else growF (l.take 30) (l.take 30).length 0
theorem treeP_size (l : List APart) : sizeT (treeP l) ≤ 1073741824 := by
  unfold treeP
  split
  · simp [sizeT, z26, allT, allKs]
  · rename_i h
    have h1 := grow_size (l.take 30) (l.take 30).length 0 (by omega)
    refine Nat.le_trans h1 (Nat.le_trans (Nat.pow_le_pow_right (by omega) (?_ : _ ≤ 30)) (by decide))
    simp; omega
theorem growTop_ev (l : List APart) (hl : l.length ≤ 30) : Ev (fun k => scribelaw12_grow.f k l 0) ((treeP l).f0, (treeP l).f1, (treeP l).f2, (treeP l).f3) := by
  have ht : l.take 30 = l := List.take_of_length_le hl
  unfold treeP
  rw [ht]
  by_cases h : l.length = 0
  · rw [if_pos h]
    refine Ev.succ ?_
    simp only [scribelaw12_grow.f]
    exact Ev.pos (by omega) (Ev.now _)
  · rw [if_neg h]
    exact grow_ev l (by omega) l.length 0 (by omega) (by omega)
theorem treeP_take (l : List APart) : treeP (l.take 30) = treeP l := by
  unfold treeP
  rw [List.take_take, Nat.min_self]
theorem Grow_ev (l : List APart) : Ev (fun k => scribelaw12_Grow.f k l) ((treeP l).f0, (treeP l).f1, (treeP l).f2, (treeP l).f3, (treeP l).f0, (treeP l).f1, (treeP l).f2, tlL (treeP l).f3) := by
  unfold scribelaw12_Grow.f
  have hs := treeP_size l
  by_cases h : (l.length : Int) > 30
  · refine Ev.pos h (Ev.pos (by omega) (Ev.bindc rfl ?_))
    have hg := growTop_ev (l.take 30) (by simp; omega)
    rw [treeP_take] at hg
    refine Ev.bind' hg (Ev.bind' hg (Ev.bind' (told_ev _ (treeP l) (Nat.le_refl _) (by omega)) (Ev.now _)))
  · have hg := growTop_ev l (by omega)
    exact Ev.neg h (Ev.bind' hg (Ev.bind' hg (Ev.bind' (told_ev _ (treeP l) (Nat.le_refl _) (by omega)) (Ev.now _))))
theorem awake12_ev : scribelaw12_awake.f = some true := by
  kernel_rfl
end Go.Proofs.YtgkojnpbgkglgaaDoor.Pr
