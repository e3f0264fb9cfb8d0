/- AstKids: a tree has one node more than its kids together, and one level more than the deepest one: in plain Lean. -/
import Derived.Test.YtgkojnpbgkglgaaDoorPuAsG
import Derived.Test.YtgkojnpbgkglgaaDoorPr5
set_option linter.unusedVariables false
namespace Go.Proofs.YtgkojnpbgkglgaaDoor.Pr
open Go Go.RowKit Go.Proofs.YtgkojnpbgkglgaaDoorW.PrintWords Go.Proofs.YtgkojnpbgkglgaaDoorW.PrintLast Go.Proofs.YtgkojnpbgkglgaaDoorW.PrintMore

mutual
/-- how many levels -/
def dpT : ANode → Int
  | ⟨_, _, _, ks⟩ => dpL ks + 1
def dpL : List ANode → Int
  | [] => 0
  | k :: r => max (dpT k) (dpL r)
end
theorem dpT_eq (n : ANode) : dpT n = dpL n.f3 + 1 := by cases n; rw [dpT]
mutual
theorem dpT_range : ∀ n : ANode, 1 ≤ dpT n ∧ dpT n ≤ (allT 0 n).length
  | ⟨o, t, a, ks⟩ => by
    have h := dpL_range ks
    rw [dpT_eq, allT_eq, List.length_cons]
    simp only
    rw [allKs_lend (0 + 1) 0]
    omega
theorem dpL_range : ∀ l : List ANode, 0 ≤ dpL l ∧ dpL l ≤ (allKs 0 l).length
  | [] => by simp [dpL, allKs]
  | k :: r => by
    have h1 := dpT_range k
    have h2 := dpL_range r
    rw [dpL, allKs, List.length_append]
    omega
end
mutual
theorem deep_T : ∀ (n : ANode) (d m : Int), (allT d n).foldl (fun m x => mx m (x.1 + 1)) m = max m (d + dpT n)
  | ⟨o, t, a, ks⟩, d, m => by
    have h := (dpL_range ks).1
    rw [allT_eq, List.foldl_cons]
    simp only
    rw [deep_L ks (d + 1) (mx m (d + 1)) (by rw [mx_max]; omega), mx_max, dpT_eq]
    simp only
    omega
theorem deep_L : ∀ (l : List ANode) (d m : Int), d ≤ m → (allKs d l).foldl (fun m x => mx m (x.1 + 1)) m = max m (d + dpL l)
  | [], d, m, h => by simp [allKs, dpL]; omega
  | k :: r, d, m, h => by
    have h1 := (dpT_range k).1
    rw [allKs, List.foldl_append, deep_T k d m, deep_L r d _ (by omega), dpL]
    omega
end
theorem deep_all (n : ANode) : deepL (allT 0 n) = dpT n := by
  have h := (dpT_range n).1
  unfold deepL
  rw [deep_T n 0 0]
  omega
theorem size_ev (n : ANode) (h : sizeT n ≤ 1000000000000) : ast_Size.f n.f0 n.f1 n.f2 n.f3 = some (sizeT n : Int) := by
  unfold ast_Size.f
  rw [node_eta]
  exact if_pos h
theorem depth_ev (n : ANode) (h : sizeT n ≤ 1000000000000) : ast_Depth.f n.f0 n.f1 n.f2 n.f3 = some (dpT n) := by
  unfold ast_Depth.f
  rw [node_eta, deep_all]
  exact if_pos h
theorem sizeT_eq (n : ANode) : sizeT n = (allKs 0 n.f3).length + 1 := by
  rw [sizeT, allT_eq, List.length_cons, allKs_lend (0 + 1) 0]
theorem kids_loop (n : ANode) (hs : sizeT n ≤ 1073741824) (m : Nat) : ∀ (i : Nat) (x y : Int), n.f3.length - i = m → i ≤ n.f3.length → x + ((allKs 0 (n.f3.drop i)).length : Int) = sizeT n → 1 ≤ x → 0 ≤ y → max y (dpL (n.f3.drop i)) = dpL n.f3 →
    Ev (fun k => scribelaw12_AstKids.l0 k x y n.f3 (n.f3.length : Int) (i : Int) n.f0 n.f1 n.f2 n.f3) true := by
  have hsz := sizeT_eq n
  have hkl := allKs_len 0 n.f3
  have hdp := dpL_range n.f3
  induction m with
  | zero =>
    intro i x y hm hi hx h1 hy hd
    refine Ev.succ ?_
    simp only [scribelaw12_AstKids.l0]
    rw [List.drop_of_length_le (by omega)] at hx hd
    simp only [allKs, List.length_nil] at hx
    simp only [dpL] at hd
    have e1 : (sizeT n : Int) = x := by omega
    have e2 : dpL n.f3 = y := by omega
    refine Ev.neg (by omega) (Ev.bindc awake12_ev (Ev.pos rfl (Ev.bindc (size_ev n (by omega)) (Ev.pos e1 (Ev.bindc (depth_ev n (by omega)) ?_)))))
    rw [dpT_eq, e2, w64 (by omega) (by omega), beq_self_eq_true]
    exact Ev.now _
  | succ m ih =>
    intro i x y hm hi hx h1 hy hd
    have hlt : i < n.f3.length := by omega
    have hk := kid_len i hlt 0
    rw [List.drop_eq_getElem_cons hlt, allKs, List.length_append] at hx
    rw [List.drop_eq_getElem_cons hlt, dpL] at hd
    have hr := dpT_range n.f3[i]
    have hr2 := (dpL_range (n.f3.drop (i + 1))).1
    refine Ev.succ ?_
    simp only [scribelaw12_AstKids.l0]
    refine Ev.pos (by omega) (Ev.pos (by omega) (Ev.pos (by omega) ?_))
    rw [rdA_get n.f3 i hlt]
    have hsk : sizeT n.f3[i] = (allT 0 n.f3[i]).length := rfl
    refine Ev.bindc (size_ev _ (by omega)) (Ev.bindc (depth_ev _ (by omega)) ?_)
    rw [w64 (n := (i : Int) + 1) (by omega) (by omega), w64 (by omega) (by omega), mx_max]
    exact ih (i + 1) _ _ (by omega) (by omega) (by omega) (by omega) (by omega) (by omega)
theorem AstKids_ev (l0 : List APart) : Ev (fun k => scribelaw12_AstKids.f k l0) true := by
  unfold scribelaw12_AstKids.f
  have hs := treeP_size l0
  refine Ev.bind' (Grow_ev l0) ?_
  exact kids_loop (treeP l0) hs _ 0 1 0 rfl (by omega) (by rw [List.drop_zero, sizeT_eq]; omega) (by omega) (by omega) (by have := (dpL_range (treeP l0).f3).1; rw [List.drop_zero]; omega)
end Go.Proofs.YtgkojnpbgkglgaaDoor.Pr
