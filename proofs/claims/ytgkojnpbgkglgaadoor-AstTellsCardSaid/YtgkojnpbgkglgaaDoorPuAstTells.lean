/- AstTells: trees tell their texts, parts and sizes: the law, walked by hand. -/
import Derived.Test.YtgkojnpbgkglgaaDoorPuAstLeft
import Derived.Test.YtgkojnpbgkglgaaDoorPuAstKids
import Derived.Test.YtgkojnpbgkglgaaDoorPuAsRS
import Derived.Test.YtgkojnpbgkglgaaDoorPuAsF
import Derived.Test.YtgkojnpbgkglgaaDoorPuInR
import Derived.Test.YtgkojnpbgkglgaaDoorPuAstTells0
import Derived.Test.YtgkojnpbgkglgaaDoorPr2
import Derived.Test.YtgkojnpbgkglgaaDoorPr4
set_option linter.unusedVariables false
set_option linter.unusedSimpArgs false
namespace Go.Proofs.YtgkojnpbgkglgaaDoor.Pr
open Go Go.RowKit Go.Shelf Go.Proofs.YtgkojnpbgkglgaaDoorW.PrintWords Go.Proofs.YtgkojnpbgkglgaaDoorW.PrintLast Go.Proofs.YtgkojnpbgkglgaaDoorW.PrintMore
attribute [local go_sem] Oper.semAt_some max2_int min2_int

/-- what is known of the two trees and the document's -/
structure Tell (W : World) (m n : ANode) (A : Option Addr) (c : Nat) (A' : Option Addr) (c' : Nat) (E : Option Addr) (d : Nat) (E' : Option Addr) (d' : Nat) : Prop where
  hT : TB W
  cm : Kd.C k26 W A m.f3.length m.f3
  lm : m.f3.length ≤ c
  cx : Kd.C kRN W A' (tlL m.f3).length (tlL m.f3)
  lx : m.f3.length ≤ c'
  cn : Kd.C k26 W E n.f3.length n.f3
  ln : n.f3.length ≤ d
  cy : Kd.C kRN W E' (tlL n.f3).length (tlL n.f3)
  ly : n.f3.length ≤ d'
  sm : sizeT m ≤ 1073741824
  pm : (prA m).length ≤ 1000000000000
def TellS (gm gx gn gy : Nat) (m n : ANode) (A : Option Addr) (c : Nat) (A' : Option Addr) (c' : Nat) (E : Option Addr) (d : Nat) (E' : Option Addr) (d' : Nat) (W X : World) : Prop := X.cell? ⟨gm, 0, none⟩ = some (.string m.f0) ∧ X.cell? ⟨gm, 1, none⟩ = some (.string m.f1) ∧ X.cell? ⟨gm, 2, none⟩ = some (.int .i64 m.f2) ∧ X.cell? ⟨gm, 3, none⟩ = some (.slice A m.f3.length c) ∧ X.cell? ⟨gx, 0, none⟩ = some (.string m.f0) ∧ X.cell? ⟨gx, 1, none⟩ = some (.string m.f1) ∧ X.cell? ⟨gx, 2, none⟩ = some (.int .i64 m.f2) ∧ X.cell? ⟨gx, 3, none⟩ = some (.slice A' (tlL m.f3).length c') ∧ X.cell? ⟨gn, 0, none⟩ = some (.string n.f0) ∧ X.cell? ⟨gn, 1, none⟩ = some (.string n.f1) ∧ X.cell? ⟨gn, 2, none⟩ = some (.int .i64 n.f2) ∧ X.cell? ⟨gn, 3, none⟩ = some (.slice E n.f3.length d) ∧ X.cell? ⟨gy, 0, none⟩ = some (.string n.f0) ∧ X.cell? ⟨gy, 1, none⟩ = some (.string n.f1) ∧ X.cell? ⟨gy, 2, none⟩ = some (.int .i64 n.f2) ∧ X.cell? ⟨gy, 3, none⟩ = some (.slice E' (tlL n.f3).length d') ∧ Below W.heap.size W X
theorem TellS.below {W X Y : World} {gm gx gn gy : Nat} {m n : ANode} {A : Option Addr} {c : Nat} {A' : Option Addr} {c' : Nat} {E : Option Addr} {d : Nat} {E' : Option Addr} {d' : Nat} (h : TellS gm gx gn gy m n A c A' c' E d E' d' W X) (hb : Below X.heap.size X Y) : TellS gm gx gn gy m n A c A' c' E d E' d' W Y := by
  obtain ⟨h0, h1, h2, h3, h4, h5, h6, h7, h8, h9, h10, h11, h12, h13, h14, h15, h16⟩ := h
  exact ⟨(hb.cell (World.block_lt_of_cell? _ _ h0)).trans h0, (hb.cell (World.block_lt_of_cell? _ _ h1)).trans h1, (hb.cell (World.block_lt_of_cell? _ _ h2)).trans h2, (hb.cell (World.block_lt_of_cell? _ _ h3)).trans h3, (hb.cell (World.block_lt_of_cell? _ _ h4)).trans h4, (hb.cell (World.block_lt_of_cell? _ _ h5)).trans h5, (hb.cell (World.block_lt_of_cell? _ _ h6)).trans h6, (hb.cell (World.block_lt_of_cell? _ _ h7)).trans h7, (hb.cell (World.block_lt_of_cell? _ _ h8)).trans h8, (hb.cell (World.block_lt_of_cell? _ _ h9)).trans h9, (hb.cell (World.block_lt_of_cell? _ _ h10)).trans h10, (hb.cell (World.block_lt_of_cell? _ _ h11)).trans h11, (hb.cell (World.block_lt_of_cell? _ _ h12)).trans h12, (hb.cell (World.block_lt_of_cell? _ _ h13)).trans h13, (hb.cell (World.block_lt_of_cell? _ _ h14)).trans h14, (hb.cell (World.block_lt_of_cell? _ _ h15)).trans h15, h16.trans (hb.mono h16.size)⟩
theorem tell_awake {W : World} {gm gx gn gy : Nat} {m n : ANode} {A : Option Addr} {c : Nat} {A' : Option Addr} {c' : Nat} {E : Option Addr} {d : Nat} {E' : Option Addr} {d' : Nat} (H : Tell W m n A c A' c' E d E' d') (X : World) (h : TellS gm gx gn gy m n A c A' c' E d E' d' W X) : Calls Tryd.prog 8 #[] X fun e X' => e = .returned (.bool true) ∧ TellS gm gx gn gy m n A c A' c' E d E' d' W X' := by
  have hB : Below W.heap.size W X := h.2.2.2.2.2.2.2.2.2.2.2.2.2.2.2.2
  exact (scribelaw12_awake.calls true X (TB.below H.hT hB) awake12_ev).mono fun e X' ⟨he, hb⟩ => ⟨he, h.below hb⟩
theorem tell_print {W : World} {gm gx gn gy : Nat} {m n : ANode} {A : Option Addr} {c : Nat} {A' : Option Addr} {c' : Nat} {E : Option Addr} {d : Nat} {E' : Option Addr} {d' : Nat} (H : Tell W m n A c A' c' E d E' d') (X : World) (h : TellS gm gx gn gy m n A c A' c' E d E' d' W X) : Calls Tryd.prog 14 #[.agg #[.string m.f0, .string m.f1, .int .i64 m.f2, .slice A m.f3.length c]] X fun e X' => e = .returned (.string (B (prA m))) ∧ TellS gm gx gn gy m n A c A' c' E d E' d' W X' := by
  have hB : Below W.heap.size W X := h.2.2.2.2.2.2.2.2.2.2.2.2.2.2.2.2
  exact (ast_Print.calls m.f0 m.f1 m.f2 A c m.f3 _ X (Kd.C_below H.cm hB) H.lm (TB.below H.hT hB) (print_ev m H.pm)).mono fun e X' ⟨he, hb⟩ => ⟨he, h.below hb⟩
theorem tell_rprint {W : World} {gm gx gn gy : Nat} {m n : ANode} {A : Option Addr} {c : Nat} {A' : Option Addr} {c' : Nat} {E : Option Addr} {d : Nat} {E' : Option Addr} {d' : Nat} (H : Tell W m n A c A' c' E d E' d') (X : World) (h : TellS gm gx gn gy m n A c A' c' E d E' d' W X) : Calls Tryd.prog 17 #[.agg #[.string m.f0, .string m.f1, .int .i64 m.f2, .slice A' (tlL m.f3).length c']] X fun e X' => e = .returned (.string (B (prA m))) ∧ TellS gm gx gn gy m n A c A' c' E d E' d' W X' := by
  have hB : Below W.heap.size W X := h.2.2.2.2.2.2.2.2.2.2.2.2.2.2.2.2
  exact (rprint_calls m A' c' X X (TB.below H.hT hB) H.pm H.lx (Kd.C_below H.cx hB) (Below.refl _ _)).mono fun e X' ⟨he, hb⟩ => ⟨he, h.below hb⟩
theorem tell_same {W : World} {gm gx gn gy : Nat} {m n : ANode} {A : Option Addr} {c : Nat} {A' : Option Addr} {c' : Nat} {E : Option Addr} {d : Nat} {E' : Option Addr} {d' : Nat} (H : Tell W m n A c A' c' E d E' d') (X : World) (h : TellS gm gx gn gy m n A c A' c' E d E' d' W X) : Calls Tryd.prog 15 #[.agg #[.string m.f0, .string m.f1, .int .i64 m.f2, .slice A m.f3.length c], .agg #[.string n.f0, .string n.f1, .int .i64 n.f2, .slice E n.f3.length d]] X fun e X' => e = .returned (.bool (sameT m n)) ∧ TellS gm gx gn gy m n A c A' c' E d E' d' W X' := by
  have hB : Below W.heap.size W X := h.2.2.2.2.2.2.2.2.2.2.2.2.2.2.2.2
  exact (ast_Same.calls m.f0 m.f1 m.f2 A c m.f3 n.f0 n.f1 n.f2 E d n.f3 _ X (Kd.C_below H.cm hB) H.lm (Kd.C_below H.cn hB) H.ln (TB.below H.hT hB) (same_ev m n)).mono fun e X' ⟨he, hb⟩ => ⟨he, h.below hb⟩
theorem tell_rsame {W : World} {gm gx gn gy : Nat} {m n : ANode} {A : Option Addr} {c : Nat} {A' : Option Addr} {c' : Nat} {E : Option Addr} {d : Nat} {E' : Option Addr} {d' : Nat} (H : Tell W m n A c A' c' E d E' d') (X : World) (h : TellS gm gx gn gy m n A c A' c' E d E' d' W X) : Calls Tryd.prog 18 #[.agg #[.string m.f0, .string m.f1, .int .i64 m.f2, .slice A' (tlL m.f3).length c'], .agg #[.string n.f0, .string n.f1, .int .i64 n.f2, .slice E' (tlL n.f3).length d']] X fun e X' => e = .returned (.bool (sameT m n)) ∧ TellS gm gx gn gy m n A c A' c' E d E' d' W X' := by
  have hB : Below W.heap.size W X := h.2.2.2.2.2.2.2.2.2.2.2.2.2.2.2.2
  exact (rsame_calls m n A' c' E' d' X (by have := H.sm; omega) (Kd.C_below H.cx hB) H.lx (Kd.C_below H.cy hB) H.ly (TB.below H.hT hB)).mono fun e X' ⟨he, hb⟩ => ⟨he, h.below hb⟩
def TellR (gi gf gd gm : Nat) (vi : Int) (vf : Value) (vd : Int) (m : ANode) (A : Option Addr) (c : Nat) (W X : World) : Prop := X.cell? ⟨gi, 0, none⟩ = some (.int .i64 vi) ∧ X.cell? ⟨gf, 0, none⟩ = some vf ∧ X.cell? ⟨gd, 0, none⟩ = some (.int .i64 vd) ∧ X.cell? ⟨gm, 0, none⟩ = some (.string m.f0) ∧ X.cell? ⟨gm, 1, none⟩ = some (.string m.f1) ∧ X.cell? ⟨gm, 2, none⟩ = some (.int .i64 m.f2) ∧ X.cell? ⟨gm, 3, none⟩ = some (.slice A m.f3.length c) ∧ Below W.heap.size W X
theorem TellR.below {W X Y : World} {gi gf gd gm : Nat} {vi : Int} {vf : Value} {vd : Int} {m : ANode} {A : Option Addr} {c : Nat} (h : TellR gi gf gd gm vi vf vd m A c W X) (hb : Below X.heap.size X Y) : TellR gi gf gd gm vi vf vd m A c W Y := by
  obtain ⟨h0, h1, h2, h3, h4, h5, h6, h7⟩ := h
  exact ⟨(hb.cell (World.block_lt_of_cell? _ _ h0)).trans h0, (hb.cell (World.block_lt_of_cell? _ _ h1)).trans h1, (hb.cell (World.block_lt_of_cell? _ _ h2)).trans h2, (hb.cell (World.block_lt_of_cell? _ _ h3)).trans h3, (hb.cell (World.block_lt_of_cell? _ _ h4)).trans h4, (hb.cell (World.block_lt_of_cell? _ _ h5)).trans h5, (hb.cell (World.block_lt_of_cell? _ _ h6)).trans h6, h7.trans (hb.mono h7.size)⟩
theorem tellR_size {W : World} {gi gf gd gm : Nat} {vi : Int} {vf : Value} {vd : Int} {m : ANode} {A : Option Addr} {c : Nat} (hT : TB W) (hC : Kd.C k26 W A m.f3.length m.f3) (hc : m.f3.length ≤ c) (hs : sizeT m ≤ 1073741824) (X : World) (h : TellR gi gf gd gm vi vf vd m A c W X) : Calls Tryd.prog 11 #[.agg #[.string m.f0, .string m.f1, .int .i64 m.f2, .slice A m.f3.length c]] X fun e X' => e = .returned (.int .i64 (sizeT m : Int)) ∧ TellR gi gf gd gm vi vf vd m A c W X' := by
  have hB : Below W.heap.size W X := h.2.2.2.2.2.2.2
  exact (ast_Size.calls m.f0 m.f1 m.f2 A c m.f3 _ X (Kd.C_below hC hB) hc (TB.below hT hB) (size_ev m (by omega))).mono fun e X' ⟨he, hb⟩ => ⟨he, h.below hb⟩
theorem tellR_depth {W : World} {gi gf gd gm : Nat} {vi : Int} {vf : Value} {vd : Int} {m : ANode} {A : Option Addr} {c : Nat} (hT : TB W) (hC : Kd.C k26 W A m.f3.length m.f3) (hc : m.f3.length ≤ c) (hs : sizeT m ≤ 1073741824) (X : World) (h : TellR gi gf gd gm vi vf vd m A c W X) : Calls Tryd.prog 12 #[.agg #[.string m.f0, .string m.f1, .int .i64 m.f2, .slice A m.f3.length c]] X fun e X' => e = .returned (.int .i64 (dpT m)) ∧ TellR gi gf gd gm vi vf vd m A c W X' := by
  have hB : Below W.heap.size W X := h.2.2.2.2.2.2.2
  exact (ast_Depth.calls m.f0 m.f1 m.f2 A c m.f3 _ X (Kd.C_below hC hB) hc (TB.below hT hB) (depth_ev m (by omega))).mono fun e X' ⟨he, hb⟩ => ⟨he, h.below hb⟩
def QS (gk gf : Nat) (d : Int) (n : ANode) (A : Option Addr) (c : Nat) (A' : Option Addr) (c' : Nat) (X : World) : Prop := X.cell? ⟨gk, 0, none⟩ = some (.string n.f0) ∧ X.cell? ⟨gk, 1, none⟩ = some (.string n.f1) ∧ X.cell? ⟨gk, 2, none⟩ = some (.int .i64 n.f2) ∧ X.cell? ⟨gk, 3, none⟩ = some (.slice A n.f3.length c) ∧ X.cell? ⟨gf, 0, none⟩ = some (.int .i64 d) ∧ X.cell? ⟨gf, 1, none⟩ = some (.string n.f0) ∧ X.cell? ⟨gf, 2, none⟩ = some (.string n.f1) ∧ X.cell? ⟨gf, 3, none⟩ = some (.int .i64 n.f2) ∧ X.cell? ⟨gf, 4, none⟩ = some (.slice A' (tlL n.f3).length c')
theorem QS.below {X Y : World} {gk gf : Nat} {d : Int} {n : ANode} {A : Option Addr} {c : Nat} {A' : Option Addr} {c' : Nat} (h : QS gk gf d n A c A' c' X) (hb : Below X.heap.size X Y) : QS gk gf d n A c A' c' Y := by
  obtain ⟨h0, h1, h2, h3, h4, h5, h6, h7, h8⟩ := h
  exact ⟨(hb.cell (World.block_lt_of_cell? _ _ h0)).trans h0, (hb.cell (World.block_lt_of_cell? _ _ h1)).trans h1, (hb.cell (World.block_lt_of_cell? _ _ h2)).trans h2, (hb.cell (World.block_lt_of_cell? _ _ h3)).trans h3, (hb.cell (World.block_lt_of_cell? _ _ h4)).trans h4, (hb.cell (World.block_lt_of_cell? _ _ h5)).trans h5, (hb.cell (World.block_lt_of_cell? _ _ h6)).trans h6, (hb.cell (World.block_lt_of_cell? _ _ h7)).trans h7, (hb.cell (World.block_lt_of_cell? _ _ h8)).trans h8⟩
theorem frozen_below {X Y : World} {p : Addr} (hb : Below X.heap.size X Y) (hl : p.block < X.heap.size) (h : X.frozen? p = false) : Y.frozen? p = false := by
  rw [← h]; unfold World.frozen?; rw [hb.block _ hl]
def dmax (l : List (Int × ANode)) : Int := l.foldl (fun m x => mx m x.1) 0
theorem dmax_snoc (l : List (Int × ANode)) (x : Int × ANode) : dmax (l ++ [x]) = mx (dmax l) x.1 := by simp [dmax]
theorem deep_shift (l : List (Int × ANode)) : ∀ s : Int, l.foldl (fun m x => mx m (x.1 + 1)) (s + 1) = l.foldl (fun m x => mx m x.1) s + 1 := by
  induction l with
  | nil => intro s; rfl
  | cons x r ih =>
    intro s
    rw [List.foldl_cons, List.foldl_cons, ← ih]
    congr 1
    unfold mx
    split <;> split <;> omega
theorem dmax_all (n : ANode) : deepL (allT 0 n) = dmax (allT 0 n) + 1 := by
  unfold deepL dmax
  rw [allT_eq, List.foldl_cons, List.foldl_cons, ← deep_shift]
  rfl
def PrOk (n : ANode) : Prop := (prA n).length ≤ 1000000000000
theorem PrOk_kids : ∀ n, PrOk n → ∀ k ∈ n.f3, PrOk k := by
  intro n h k hk
  obtain ⟨i, hi, rfl⟩ := List.mem_iff_getElem.1 hk
  have := prAs_le i hi
  unfold PrOk at h ⊢
  rw [prA_eq] at h
  simp only [List.length_cons, List.length_append] at h
  omega
theorem alloc4 (w : World) (o0 o1 o2 o3 : Obj) (W : World) (h : W = (((w.alloc o0).alloc o1).alloc o2).alloc o3) :
    W.heap.size = w.heap.size + 4 ∧ W.heap[w.heap.size]? = some o0 ∧ W.heap[w.heap.size + 1]? = some o1 ∧ W.heap[w.heap.size + 2]? = some o2 ∧ W.heap[w.heap.size + 3]? = some o3 ∧ Below w.heap.size w W := by
  subst h
  have n0 := World.alloc_heap_new w o0
  have n1 := World.alloc_heap_new (w.alloc o0) o1
  have n2 := World.alloc_heap_new ((w.alloc o0).alloc o1) o2
  have n3 := World.alloc_heap_new (((w.alloc o0).alloc o1).alloc o2) o3
  simp only [World.size_alloc, Nat.add_assoc, Nat.reduceAdd] at n1 n2 n3
  refine ⟨by simp, (Below.heap_alloc _ _ _ (by simp; omega)).trans ((Below.heap_alloc _ _ _ (by simp; omega)).trans ((Below.heap_alloc _ _ _ (by simp)).trans n0)), (Below.heap_alloc _ _ _ (by simp)).trans ((Below.heap_alloc _ _ _ (by simp)).trans n1), (Below.heap_alloc _ _ _ (by simp)).trans n2, n3, ?_⟩
  exact ((((Below.refl _ _).alloc (Nat.le_refl _) _).alloc (by simp) _).alloc (by simp; omega) _).alloc (by simp; omega) _
def scribelaw12_AstTells.f (k : Nat) (l0 l1 : List APart) (a2 : ByteArray) (a3 : Int) : Option Bool := some true
theorem AstTells_ev (l0 l1 : List APart) (a2 : ByteArray) (a3 : Int) (_w2 : a2.size ≤ 140737488351232) (_w3 : (Lit.int .i64 a3).wf = true) : Ev (fun k => scribelaw12_AstTells.f k l0 l1 a2 a3) true := ⟨0, fun _ _ => rfl⟩
set_option maxRecDepth 100000 in
set_option maxHeartbeats 8000000 in
theorem scribelaw12_AstTells.calls (k : Nat) (A0 : Option Addr) (c0 : Nat) (l0 : List APart) (A1 : Option Addr) (c1 : Nat) (l1 : List APart) (a2 : ByteArray) (a3 : Int) (r : Bool) (w : World) (hr0 : Kd.C k42 w A0 l0.length l0) (hc0 : l0.length ≤ c0) (hr1 : Kd.C k42 w A1 l1.length l1) (hc1 : l1.length ≤ c1) (hT : TB w) (h : scribelaw12_AstTells.f k l0 l1 a2 a3 = some r) :
    Calls Tryd.prog 7 #[.slice A0 l0.length c0, .slice A1 l1.length c1, .string a2, .int .i64 a3] w fun e w' => e = .returned (.bool r) ∧ Below w.heap.size w w' := by
  obtain rfl : true = r := Option.some.inj h
  clear h
  have hu := Tryd.underlying26
  have hu2 := Tryd.underlying29
  have hu3 := Tryd.underlying50
  have hszm := treeP_size l0
  have hprm := treeP_print l0
  have HGM := Lib.hid (fun W (hb : Below w.heap.size w W) => Grow_tree A0 c0 l0 W (Kd.C_below hr0 hb) hc0 (TB.below hT hb))
  have HGN := Lib.hid (fun W (hb : Below w.heap.size w W) => Grow_tree A1 c1 l1 W (Kd.C_below hr1 hb) hc1 (TB.below hT hb))
  have HCUT := Lib.hid (fun W (hb : Below w.heap.size w W) => scribelaw01_Cut.calls a2 10 _ W (TB.below hT hb) (cutB_ev a2 10))
  have hT := Lib.hid hT
  generalize treeP l0 = m at HGM hszm hprm
  generalize treeP l1 = n at HGN
  generalize cutB a2 10 = op at HCUT
  clear hr0 hr1
  refine (callsIn_wide (n := 9)).1 ?_
  refine callsIn_of_wp_marks Tryd.func7 rfl trivial ?_ rfl
  simp only [Tryd.ntmps7, List.size_toArray, List.length_cons, List.length_nil, Nat.reduceAdd, Nat.reduceSub, Array.replicate_succ, Array.replicate_zero, List.push_toArray, List.append_toArray, List.nil_append, List.cons_append]
  gi_wp2_with (first
    | (refine ⟨trivial, ?_⟩; gi_at_call 9; refine (callsIn_wide.2 (HGM.out _ ((Below.refl _ _).alloc (Nat.le_refl _) _))).mono ?_; rintro e w2 ⟨A, c, A', c', rfl, m1, m2, m3, m4, hb2⟩; have HB2 := Lib.hid (((Below.refl w.heap.size w).alloc (Nat.le_refl _) (.cells #[.bool false] 4)).trans (hb2.mono (by simp))); have HM := Lib.hid (And.intro m2 m4); have HR := Lib.hid ((hb2.block w.heap.size (by simp)).trans (heap_alloc_new w (.cells #[.bool false] 4))); clear hb2 m2 m4 HGM)
    | fail)
  refine ⟨trivial, ?_⟩
  have hs2 := HB2.out.size
  obtain ⟨W4, hW4⟩ : ∃ W4, (w2.alloc (.cells #[.string m.f0, .string m.f1, .int .i64 m.f2, .slice A m.f3.length c] 26)).alloc (.cells #[.string m.f0, .string m.f1, .int .i64 m.f2, .slice A' (tlL m.f3).length c'] 29) = W4 := ⟨_, rfl⟩
  have hs4 : W4.heap.size = w2.heap.size + 2 := by rw [← hW4]; simp
  have hb24 : Below w2.heap.size w2 W4 := by rw [← hW4]; exact ((Below.refl _ _).alloc (Nat.le_refl _) _).alloc (by simp) _
  have hm4 : W4.heap[w2.heap.size]? = some (.cells #[.string m.f0, .string m.f1, .int .i64 m.f2, .slice A m.f3.length c] 26 (0, 0)) := by rw [← hW4]; exact (Below.heap_alloc _ _ _ (by simp)).trans (heap_alloc_new w2 _)
  have hx4 : W4.heap[w2.heap.size + 1]? = some (.cells #[.string m.f0, .string m.f1, .int .i64 m.f2, .slice A' (tlL m.f3).length c'] 29 (0, 0)) := by
    rw [← hW4]
    have := heap_alloc_new (w2.alloc (.cells #[.string m.f0, .string m.f1, .int .i64 m.f2, .slice A m.f3.length c] 26)) (.cells #[.string m.f0, .string m.f1, .int .i64 m.f2, .slice A' (tlL m.f3).length c'] 29)
    rwa [World.size_alloc] at this
  have hb4 : Below w.heap.size w W4 := HB2.out.trans (hb24.mono hs2)
  have hr4 := (hb24.block _ (Array.getElem?_eq_some_iff.1 HR.out).1).trans HR.out
  rw [hW4]
  refine (callsIn_wide.2 (HGN.out _ hb4)).mono ?_
  rintro e w5 ⟨E, d, E', d', rfl, n1, n2, n3, n4, hb5⟩
  dsimp only
  obtain ⟨W7, hW7⟩ : ∃ W7, (w5.alloc (.cells #[.string n.f0, .string n.f1, .int .i64 n.f2, .slice E n.f3.length d] 26)).alloc (.cells #[.string n.f0, .string n.f1, .int .i64 n.f2, .slice E' (tlL n.f3).length d'] 29) = W7 := ⟨_, rfl⟩
  have hs5 := hb5.size
  have hs7 : W7.heap.size = w5.heap.size + 2 := by rw [← hW7]; simp
  have hb57 : Below w5.heap.size w5 W7 := by rw [← hW7]; exact ((Below.refl _ _).alloc (Nat.le_refl _) _).alloc (by simp) _
  have hn7 : W7.heap[w5.heap.size]? = some (.cells #[.string n.f0, .string n.f1, .int .i64 n.f2, .slice E n.f3.length d] 26 (0, 0)) := by rw [← hW7]; exact (Below.heap_alloc _ _ _ (by simp)).trans (heap_alloc_new w5 _)
  have hy7 : W7.heap[w5.heap.size + 1]? = some (.cells #[.string n.f0, .string n.f1, .int .i64 n.f2, .slice E' (tlL n.f3).length d'] 29 (0, 0)) := by
    rw [← hW7]
    have := heap_alloc_new (w5.alloc (.cells #[.string n.f0, .string n.f1, .int .i64 n.f2, .slice E n.f3.length d] 26)) (.cells #[.string n.f0, .string n.f1, .int .i64 n.f2, .slice E' (tlL n.f3).length d'] 29)
    rwa [World.size_alloc] at this
  have hb47 : Below W4.heap.size W4 W7 := hb5.trans (hb57.mono hs5)
  have HB7 := Lib.hid (hb4.trans (hb47.mono hb4.size))
  have HR7 := Lib.hid ((hb47.block _ (Array.getElem?_eq_some_iff.1 hr4).1).trans hr4)
  have HM7 := Lib.hid ((hb47.block _ (Array.getElem?_eq_some_iff.1 hm4).1).trans hm4)
  have HX7 := Lib.hid ((hb47.block _ (Array.getElem?_eq_some_iff.1 hx4).1).trans hx4)
  have HN7 := Lib.hid hn7
  have HY7 := Lib.hid hy7
  have HTELL := Lib.hid (show Tell W7 m n A c A' c' E d E' d' from ⟨TB.below hT.out HB7.out, Kd.C_below HM.out.1 (hb24.trans (hb47.mono (by omega))), m1, Kd.C_below HM.out.2 (hb24.trans (hb47.mono (by omega))), by rw [← tlL_len]; exact m3, Kd.C_below n2 hb57, n1, Kd.C_below n4 hb57, by rw [← tlL_len]; exact n3, hszm, hprm⟩)
  clear hm4 hx4 hn7 hy7 hr4 hb5 hb57 hb47 hb24 HM HGN HR n2 n4
  gi_wp2_with (refine ⟨trivial, ?_⟩; gi_at_call 16; refine (callsIn_wide.2 (HCUT.out _ HB7.out)).mono ?_; rintro e w8 ⟨rfl, hd8⟩)
  have hb8 := hd8.below
  have hs8 := hb8.size
  have HTELL8 := Lib.hid (show Tell w8 m n A c A' c' E d E' d' from ⟨TB.below HTELL.out.hT hb8, Kd.C_below HTELL.out.cm hb8, m1, Kd.C_below HTELL.out.cx hb8, HTELL.out.lx, Kd.C_below HTELL.out.cn hb8, n1, Kd.C_below HTELL.out.cy hb8, HTELL.out.ly, hszm, hprm⟩)
  have HB8 := Lib.hid (HB7.out.trans (hb8.mono HB7.out.size))
  have hr8 := (hb8.block _ (Array.getElem?_eq_some_iff.1 HR7.out).1).trans HR7.out
  have hm8 := (hb8.block _ (Array.getElem?_eq_some_iff.1 HM7.out).1).trans HM7.out
  have hx8 := (hb8.block _ (Array.getElem?_eq_some_iff.1 HX7.out).1).trans HX7.out
  have hn8 := (hb8.block _ (Array.getElem?_eq_some_iff.1 HN7.out).1).trans HN7.out
  have hy8 := (hb8.block _ (Array.getElem?_eq_some_iff.1 HY7.out).1).trans HY7.out
  have HR8 := Lib.hid hr8
  have HM8 := Lib.hid hm8
  have HX8 := Lib.hid hx8
  have hsame : (sameT m n != sameT m n) = false := by simp
  have hS8 : w8.drew.cell? ⟨w2.heap.size, 0, none⟩ = some (.string m.f0) ∧ w8.drew.cell? ⟨w2.heap.size, 1, none⟩ = some (.string m.f1) ∧ w8.drew.cell? ⟨w2.heap.size, 2, none⟩ = some (.int .i64 m.f2) ∧ w8.drew.cell? ⟨w2.heap.size, 3, none⟩ = some (.slice A m.f3.length c) ∧ w8.drew.cell? ⟨w2.heap.size + 1, 0, none⟩ = some (.string m.f0) ∧ w8.drew.cell? ⟨w2.heap.size + 1, 1, none⟩ = some (.string m.f1) ∧ w8.drew.cell? ⟨w2.heap.size + 1, 2, none⟩ = some (.int .i64 m.f2) ∧ w8.drew.cell? ⟨w2.heap.size + 1, 3, none⟩ = some (.slice A' (tlL m.f3).length c') ∧ w8.drew.cell? ⟨w5.heap.size, 0, none⟩ = some (.string n.f0) ∧ w8.drew.cell? ⟨w5.heap.size, 1, none⟩ = some (.string n.f1) ∧ w8.drew.cell? ⟨w5.heap.size, 2, none⟩ = some (.int .i64 n.f2) ∧ w8.drew.cell? ⟨w5.heap.size, 3, none⟩ = some (.slice E n.f3.length d) ∧ w8.drew.cell? ⟨w5.heap.size + 1, 0, none⟩ = some (.string n.f0) ∧ w8.drew.cell? ⟨w5.heap.size + 1, 1, none⟩ = some (.string n.f1) ∧ w8.drew.cell? ⟨w5.heap.size + 1, 2, none⟩ = some (.int .i64 n.f2) ∧ w8.drew.cell? ⟨w5.heap.size + 1, 3, none⟩ = some (.slice E' (tlL n.f3).length d') ∧ Below w8.heap.size w8 w8.drew := by
    exact ⟨(blk_cell hm8 0).trans rfl, (blk_cell hm8 1).trans rfl, (blk_cell hm8 2).trans rfl, (blk_cell hm8 3).trans rfl, (blk_cell hx8 0).trans rfl, (blk_cell hx8 1).trans rfl, (blk_cell hx8 2).trans rfl, (blk_cell hx8 3).trans rfl, (blk_cell hn8 0).trans rfl, (blk_cell hn8 1).trans rfl, (blk_cell hn8 2).trans rfl, (blk_cell hn8 3).trans rfl, (blk_cell hy8 0).trans rfl, (blk_cell hy8 1).trans rfl, (blk_cell hy8 2).trans rfl, (blk_cell hy8 3).trans rfl, ⟨rfl, rfl, rfl, Nat.le_refl _, fun _ _ => rfl⟩⟩
  have HAW := Lib.hid (fun X => tell_awake (gm := w2.heap.size) (gx := w2.heap.size + 1) (gn := w5.heap.size) (gy := w5.heap.size + 1) HTELL8.out X)
  have HPM := Lib.hid (fun X => tell_print (gm := w2.heap.size) (gx := w2.heap.size + 1) (gn := w5.heap.size) (gy := w5.heap.size + 1) HTELL8.out X)
  have HPX := Lib.hid (fun X => tell_rprint (gm := w2.heap.size) (gx := w2.heap.size + 1) (gn := w5.heap.size) (gy := w5.heap.size + 1) HTELL8.out X)
  have HSM := Lib.hid (fun X => tell_same (gm := w2.heap.size) (gx := w2.heap.size + 1) (gn := w5.heap.size) (gy := w5.heap.size + 1) HTELL8.out X)
  have HSX := Lib.hid (fun X => tell_rsame (gm := w2.heap.size) (gx := w2.heap.size + 1) (gn := w5.heap.size) (gy := w5.heap.size + 1) HTELL8.out X)
  clear hr8 hm8 hx8 hn8 hy8 hd8 hb8 HTELL HM7 HX7 HN7 HY7 HR7 HB7
  generalize hbp : B (prA m) = bp at HPM HPX
  generalize hbs : sameT m n = bs at HSM HSX hsame
  refine wpIn_wide.2 ?_
  go_region_held3 (fun X : World => X.cell? ⟨w2.heap.size, 0, none⟩ = some (.string m.f0) ∧ X.cell? ⟨w2.heap.size, 1, none⟩ = some (.string m.f1) ∧ X.cell? ⟨w2.heap.size, 2, none⟩ = some (.int .i64 m.f2) ∧ X.cell? ⟨w2.heap.size, 3, none⟩ = some (.slice A m.f3.length c) ∧ X.cell? ⟨w2.heap.size + 1, 0, none⟩ = some (.string m.f0) ∧ X.cell? ⟨w2.heap.size + 1, 1, none⟩ = some (.string m.f1) ∧ X.cell? ⟨w2.heap.size + 1, 2, none⟩ = some (.int .i64 m.f2) ∧ X.cell? ⟨w2.heap.size + 1, 3, none⟩ = some (.slice A' (tlL m.f3).length c') ∧ X.cell? ⟨w5.heap.size, 0, none⟩ = some (.string n.f0) ∧ X.cell? ⟨w5.heap.size, 1, none⟩ = some (.string n.f1) ∧ X.cell? ⟨w5.heap.size, 2, none⟩ = some (.int .i64 n.f2) ∧ X.cell? ⟨w5.heap.size, 3, none⟩ = some (.slice E n.f3.length d) ∧ X.cell? ⟨w5.heap.size + 1, 0, none⟩ = some (.string n.f0) ∧ X.cell? ⟨w5.heap.size + 1, 1, none⟩ = some (.string n.f1) ∧ X.cell? ⟨w5.heap.size + 1, 2, none⟩ = some (.int .i64 n.f2) ∧ X.cell? ⟨w5.heap.size + 1, 3, none⟩ = some (.slice E' (tlL n.f3).length d') ∧ Below w8.heap.size w8 X) (first | exact hS9 | exact hS8) (first
    | (go_at_call 8; (with_reducible refine (HAW.out _ (by unfold TellS; assumption)).mono ?_); rintro e w9 ⟨rfl, hS9⟩)
    | (go_at_call 14; (with_reducible refine (HPM.out _ (by unfold TellS; assumption)).mono ?_); rintro e w9 ⟨rfl, hS9⟩)
    | (go_at_call 17; (with_reducible refine (HPX.out _ (by unfold TellS; assumption)).mono ?_); rintro e w9 ⟨rfl, hS9⟩)
    | (go_at_call 15; (with_reducible refine (HSM.out _ (by unfold TellS; assumption)).mono ?_); rintro e w9 ⟨rfl, hS9⟩)
    | (go_at_call 18; (with_reducible refine (HSX.out _ (by unfold TellS; assumption)).mono ?_); rintro e w9 ⟨rfl, hS9⟩))
  have hb9 : Below w8.heap.size w8 w9 := hS9.2.2.2.2.2.2.2.2.2.2.2.2.2.2.2.2
  have hs9 := hb9.size
  have HR9 := Lib.hid ((hb9.block _ (Array.getElem?_eq_some_iff.1 HR8.out).1).trans HR8.out)
  have HM9 := Lib.hid ((hb9.block _ (Array.getElem?_eq_some_iff.1 HM8.out).1).trans HM8.out)
  have HX9 := Lib.hid ((hb9.block _ (Array.getElem?_eq_some_iff.1 HX8.out).1).trans HX8.out)
  have HB9 := Lib.hid (HB8.out.trans (hb9.mono HB8.out.size))
  have hs8w := HB8.out.size
  have hs9w := HB9.out.size
  have hm9l := (Array.getElem?_eq_some_iff.1 HM9.out).1
  have HALL := Lib.hid (rall_calls m A' c' w9 (by omega) HTELL8.out.lx (Kd.C_below HTELL8.out.cx hb9))
  have HMC9 := Lib.hid (Kd.C_below HTELL8.out.cm hb9)
  have x0 : w9.cell? ⟨w2.heap.size + 1, 0, none⟩ = some (.string m.f0) := (blk_cell HX9.out 0).trans rfl
  have x1 : w9.cell? ⟨w2.heap.size + 1, 1, none⟩ = some (.string m.f1) := (blk_cell HX9.out 1).trans rfl
  have x2 : w9.cell? ⟨w2.heap.size + 1, 2, none⟩ = some (.int .i64 m.f2) := (blk_cell HX9.out 2).trans rfl
  have x3 : w9.cell? ⟨w2.heap.size + 1, 3, none⟩ = some (.slice A' (tlL m.f3).length c') := (blk_cell HX9.out 3).trans rfl
  clear HR8 HM8 HX8 HAW HPM HPX HSM HSX hS8 hS9 hsame
  gi_wp2_with (first
    | (refine ⟨trivial, ?_⟩; gi_at_call 19; refine (callsIn_wide.2 HALL.out).mono ?_; rintro e w10 ⟨F0, f0, rfl, hf0, hF, hb10⟩; clear x0 x1 x2 x3; have hmq := (Below.heap_alloc ((w10.alloc (.cells #[.slice F0 (sizeT m) f0] 47)).alloc (.cells #[.int .i64 0] 3)) (.cells #[.int .i64 0] 3) _ (by have := hb10.size; simp; omega)).trans ((Below.heap_alloc (w10.alloc (.cells #[.slice F0 (sizeT m) f0] 47)) (.cells #[.int .i64 0] 3) _ (by have := hb10.size; simp; omega)).trans ((Below.heap_alloc w10 (.cells #[.slice F0 (sizeT m) f0] 47) _ (by have := hb10.size; omega)).trans ((hb10.block _ hm9l).trans HM9.out))); have x0 := (blk_cell hmq 0).trans rfl; have x1 := (blk_cell hmq 1).trans rfl; have x2 := (blk_cell hmq 2).trans rfl; have x3 := (blk_cell hmq 3).trans rfl; clear hmq)
    | (refine ⟨trivial, ?_⟩; gi_at_call 10; refine (ast_All_in Fence.wide _ trivial rfl _ _ _ _ _ _ _).mono ?_; rintro e w' ⟨rfl, rfl⟩))
  simp only [show w10.heap.size + 1 + 1 + 1 = w10.heap.size + 3 from rfl, show w10.heap.size + 1 + 1 = w10.heap.size + 2 from rfl]
  generalize (Value.tuple #[.agg #[.string m.f0, .string m.f1, .int .i64 m.f2, .slice A m.f3.length c], .agg #[.string m.f0, .string m.f1, .int .i64 m.f2, .slice A' (tlL m.f3).length c']]) = u22
  generalize (Value.tuple #[.agg #[.string n.f0, .string n.f1, .int .i64 n.f2, .slice E n.f3.length d], .agg #[.string n.f0, .string n.f1, .int .i64 n.f2, .slice E' (tlL n.f3).length d']]) = u27
  generalize (Value.agg #[.string m.f0, .string m.f1, .int .i64 m.f2, .slice A m.f3.length c]) = vm
  generalize (Value.agg #[.string m.f0, .string m.f1, .int .i64 m.f2, .slice A' (tlL m.f3).length c']) = vx
  generalize (Value.agg #[.string n.f0, .string n.f1, .int .i64 n.f2, .slice E n.f3.length d]) = vn
  generalize (Value.agg #[.string n.f0, .string n.f1, .int .i64 n.f2, .slice E' (tlL n.f3).length d']) = vy
  obtain ⟨x, hx⟩ : ∃ x : AElW PrOk w10, x = ⟨⟨0, m, A, c⟩, ⟨m1, Kd.C_below HMC9.out hb10, by simp, by simp⟩, hprm⟩ := ⟨_, rfl⟩
  obtain ⟨Wl, hWl⟩ : ∃ Wl, (((w10.alloc (.cells #[.slice F0 (sizeT m) f0] 47)).alloc (.cells #[.int .i64 0] 3)).alloc (.cells #[.int .i64 0] 3)).alloc (.cells #[.string m.f0, .string m.f1, .int .i64 m.f2, .slice A m.f3.length c] 26) = Wl := ⟨_, rfl⟩
  obtain ⟨hszl, hbf, hbi, hbd, hbn, hbel⟩ := alloc4 w10 _ _ _ _ Wl hWl.symm
  rw [hWl]
  clear hWl x0 x1 x2 x3
  have hs10 := hb10.size
  have hstop := all_stops PrOk PrOk_kids Fence.wide rfl 8 trivial trivial rfl (w10.heap.size + 3) w10 Wl (fun k => k = w.heap.size ∨ k = w10.heap.size + 1 ∨ k = w10.heap.size + 2) (by rintro k (rfl | rfl | rfl) <;> omega) hbel x (by rw [hx]) (by rw [hx]; exact Nat.le_trans hszm (by omega)) (by omega) (by rw [hx]; exact hbn)
  have hxn : allT 0 x.1.n = allT 0 m := by rw [hx]
  rw [hxn] at hstop
  have HRl := Lib.hid ((hbel.block _ (by omega)).trans ((hb10.block _ (Array.getElem?_eq_some_iff.1 HR9.out).1).trans HR9.out))
  refine wpIn_rangeFunc_ownH rfl (by omega) (gf := 23) (lb := #[.pointer (some ⟨w10.heap.size + 3, 0, none⟩)]) rfl trivial (enters_of Tryd.func23 (by kernel_rfl) rfl)
    hstop (fun h k => h.trans k) (KpM.book (by omega)) (Below.refl _ _) (fun _ => rfl)
    (fun pre W => (((Boxed W w10.heap.size 47 (.slice F0 (sizeT m) f0) ∧ Boxed W (w10.heap.size + 1) 3 (.int .i64 (pre.length : Int))) ∧ Boxed W (w10.heap.size + 2) 3 (.int .i64 (dmax (toldE pre)))) ∧ Boxed W w.heap.size 4 (.bool false)) ∧ Below w10.heap.size w10 W)
    (fun cc pre W => cc = .ret ∧ ¬ (toldE pre <+: allT 0 m))
    (OwnFrom.and (OwnFrom.and (OwnFrom.and (OwnFrom.and (Own.from (boxed_own _ _ _) _) (Own.from (boxed_own _ _ _) _)) (Own.from (boxed_own _ _ _) _)) (Own.from (boxed_own _ _ _) _)) (ownFrom_below (Nat.le_refl _) (by omega)))
    (fun cc => fun s X Z row hs _ _ => hs)
    ⟨⟨⟨⟨hbf, hbi⟩, hbd⟩, HRl.out⟩, hbel⟩
    (fun y a' W => ∃ Bx, W.heap[Bx]? = some (.cells #[.string y.1.n.f0, .string y.1.n.f1, .int .i64 y.1.n.f2, .slice y.1.A y.1.n.f3.length y.1.c] 26 (0, 0)) ∧ a' = { tmps := #[.slice A0 l0.length c0, .slice A1 l1.length c1, .string op, .int .i64 a3, undef, undef, undef, undef, .pointer (some ⟨w.heap.size, 0, none⟩), .pointer (some ⟨w2.heap.size, 0, none⟩), .pointer (some ⟨w2.heap.size + 1, 0, none⟩), .pointer (some ⟨w5.heap.size, 0, none⟩), .pointer (some ⟨w5.heap.size + 1, 0, none⟩), .pointer (some ⟨w10.heap.size, 0, none⟩), .pointer (some ⟨w10.heap.size + 1, 0, none⟩), .pointer (some ⟨w10.heap.size + 2, 0, none⟩), .int .i64 y.1.d, .pointer (some ⟨Bx, 0, none⟩), undef, undef, undef, undef, u22, .slice A0 l0.length c0, u22, vm, vx, u27, .slice A1 l1.length c1, u27, vn, vy, .string a2, .string op, .bool true, .bool false, .bool false, vm, .string bp, vx, .string bp, .bool false, .bool false, .bool false, vm, vn, .bool bs, vx, vy, .bool bs, .bool false, .bool false, vx, .slice F0 (sizeT m) f0, vm, .func (.func 23) #[] #[.pointer (some ⟨w10.heap.size + 3, 0, none⟩)], .int .i64 y.1.d, y.1.val, undef, undef, undef, undef, undef, undef, undef, undef, undef, undef, undef, undef, undef, undef, undef, undef, undef, undef, undef, undef, undef, undef, undef, undef, undef, undef, undef, undef, undef, undef, undef, undef, undef, undef, undef, undef, undef, undef, undef, undef, undef, undef, undef, undef, undef, undef, undef, undef, undef, undef, undef, undef, undef, undef, undef, undef, undef, undef, undef, undef, undef, undef, undef, undef, undef, undef, undef, undef, undef, undef, undef, undef, undef, undef, undef, undef, undef, undef, undef, undef, undef, undef, undef, undef, undef, undef, undef, undef, undef, undef, undef, undef, undef, undef, undef, undef, undef, undef, undef, undef, undef, undef, undef, undef, undef, undef, undef, undef, undef, undef, undef], defers := [] })
    (fun y a' s X Z row hs hg hr => by
      obtain ⟨Bx, h1, h2⟩ := hs
      exact ⟨Bx, ownFrom_blk (B := Wl.heap.size) Bx () X Z row h1 hg hr, h2⟩) ?assign ?body ?done ?stop
  case assign =>
    rintro l pre y W K ⟨⟨⟨⟨hb1, hb2⟩, hb3⟩, hb0⟩, hB⟩ hK
    have hy : y.1.val = .agg #[.string y.1.n.f0, .string y.1.n.f1, .int .i64 y.1.n.f2, .slice y.1.A y.1.n.f3.length y.1.c] := rfl
    simp only [AElW.enc, hy]
    gi_wp2
    refine hK _ _ ((KeepsOthers.alloc _ _).from _) (KpM.of_below (by have := hB.size; omega) ((Below.refl _ _).alloc (Nat.le_refl _) _)) ⟨⟨⟨⟨hb1.alloc _, hb2.alloc _⟩, hb3.alloc _⟩, hb0.alloc _⟩, hB.alloc hB.size _⟩ ⟨W.heap.size, heap_alloc_new W _, ?_⟩
    simp [AEl.val]
  case body =>
    rintro l pre y a' W hl ⟨rr, hrr⟩ ⟨⟨⟨⟨hb1, hb2⟩, hb3⟩, hb0⟩, hB⟩ ⟨Bx, hbx2, rfl⟩ hlen
    have hlen' : pre.length < (allT 0 m).length := hlen
    have hsz' : (allT 0 m).length = sizeT m := rfl
    obtain ⟨xj, hxj⟩ : ∃ x, (allT 0 m)[pre.length]? = some x := ⟨_, List.getElem?_eq_getElem hlen'⟩
    have hmem := List.mem_of_getElem? hxj
    have hnot : xj ≠ (y.1.d, y.1.n) → ¬ (toldE (pre ++ [y]) <+: allT 0 m) := by
      rintro hne ⟨suf, hs⟩
      have h1 : (toldE (pre ++ [y]))[pre.length]? = some (y.1.d, y.1.n) := by
        rw [toldE_app, List.getElem?_append_right (by simp [toldE])]
        simp [toldE]
      have h2 : (allT 0 m)[pre.length]? = some (y.1.d, y.1.n) := by
        rw [← hs, List.getElem?_append_left (by simp [toldE])]
        exact h1
      rw [hxj] at h2
      exact hne (Option.some.inj h2)
    have hge : decide ((pre.length : Int) ≥ (sizeT m : Int)) = false := decide_eq_false (by omega)
    have hge2 : decide ((sizeT m : Int) ≤ (pre.length : Int)) = false := decide_eq_false (by omega)
    have hlt2 : decide ((pre.length : Int) < (sizeT m : Int)) = true := decide_eq_true (by omega)
    have hltn : pre.length < sizeT m := by omega
    have hgen : decide (sizeT m ≤ pre.length) = false := decide_eq_false (by omega)
    have hgen2 : decide (pre.length ≥ sizeT m) = false := decide_eq_false (by omega)
    obtain ⟨ad, A4, c4, eA, g0, g1, g2, g3, g4, l4, gC⟩ := flatRC hF hB pre.length xj hxj
    subst eA
    have hprx : (prA xj.2).length ≤ 1000000000000 := pr_inT 0 PrOk PrOk_kids m hprm xj hmem
    have hpry : (prA y.1.n).length ≤ 1000000000000 := y.2.2
    have hyl := y.2.1.1
    have hyC := y.2.1.2.1
    have hwW : Below w.heap.size w W := HB9.out.trans ((hb10.trans (hB.mono hs10)).mono HB9.out.size)
    have HTX := Lib.hid (fun X (hb : Below W.heap.size W X) => TB.below hT.out (hwW.trans (hb.mono hwW.size)))
    have HP1 := Lib.hid (fun X (hb : Below W.heap.size W X) => ast_Print.calls y.1.n.f0 y.1.n.f1 y.1.n.f2 y.1.A y.1.c y.1.n.f3 _ X (Kd.C_below hyC (hB.trans (hb.mono hB.size))) hyl (HTX.out X hb) (print_ev y.1.n hpry))
    have HP2 := Lib.hid (fun X (hb : Below W.heap.size W X) => rprint_calls xj.2 A4 c4 X X (HTX.out X hb) hprx l4 (Kd.C_below gC hb) (Below.refl _ _))
    obtain ⟨p1, hp1⟩ : ∃ p, B (prA y.1.n) = p := ⟨_, rfl⟩
    obtain ⟨p2, hp2⟩ : ∃ p, B (prA xj.2) = p := ⟨_, rfl⟩
    rw [hp1] at HP1
    rw [hp2] at HP2
    have k0 : W.cell? ⟨Bx, 0, none⟩ = some (.string y.1.n.f0) := (blk_cell hbx2 0).trans rfl
    have k1 : W.cell? ⟨Bx, 1, none⟩ = some (.string y.1.n.f1) := (blk_cell hbx2 1).trans rfl
    have k2 : W.cell? ⟨Bx, 2, none⟩ = some (.int .i64 y.1.n.f2) := (blk_cell hbx2 2).trans rfl
    have k3 : W.cell? ⟨Bx, 3, none⟩ = some (.slice y.1.A y.1.n.f3.length y.1.c) := (blk_cell hbx2 3).trans rfl
    have HS0 : Hid (RS (w10.heap.size + 1) w10.heap.size pre.length Bx ad (pre.length : Int) (sizeT m) f0 xj A4 c4 y.1.n y.1.A y.1.c W) := Lib.hid ⟨hb2.cell, hb1.cell, g0, g1, g2, g3, g4, k0, k1, k2, k3⟩
    have HS0d : Hid (RS (w10.heap.size + 1) w10.heap.size pre.length Bx ad (pre.length : Int) (sizeT m) f0 xj A4 c4 y.1.n y.1.A y.1.c W.drew) := Lib.hid ⟨hb2.cell, hb1.cell, g0, g1, g2, g3, g4, k0, k1, k2, k3⟩
    have hWd : Below W.heap.size W W.drew := ⟨rfl, rfl, rfl, Nat.le_refl _, fun _ _ => rfl⟩
    have H1 := Lib.hid hb1
    have H2 := Lib.hid hb2
    have H3 := Lib.hid hb3
    have H0 := Lib.hid hb0
    have HBB := Lib.hid hB
    have HNT := Lib.hid hnot
    have HP1e := Lib.hid hp1
    have HP2e := Lib.hid hp2
    have HX := Lib.hid hxj
    clear hb1 hb2 hb3 hb0 hB hnot hp1 hp2 g0 g1 g2 g3 g4 gC k0 k1 k2 k3 hbx2 hxj hmem hyC hwW hstop
    cases hd1 : (xj.1 != y.1.d) with
    | true =>
      have hne : xj ≠ (y.1.d, y.1.n) := fun e => by rw [e] at hd1; simp at hd1
      have HNOT := Lib.hid (HNT.out hne)
      clear hne
      gi_wp2
      refine start_inN (n := 35) (S := RS (w10.heap.size + 1) w10.heap.size pre.length Bx ad (pre.length : Int) (sizeT m) f0 xj A4 c4 y.1.n y.1.A y.1.c) (ds := []) _ _ #[ff,ff,ff,ff,ff,ff,ff,ff,ff,ff,ff,ff,ff,ff,ff,ff,ff,ff,ff,ff,ff,ff,ff,ff,ff,ff,ff,ff,ff,ff,ff,ff,ff,ff,ff] (by kernel_rfl) rfl rfl HS0d.out (by kernel_rfl) (fun hHeld => ?_)
      refine take_ (i := 0) (N := some 58) (v := ?_) (a' := ?_) #[tt,ff,ff,ff,ff,ff,ff,ff,ff,ff,ff,ff,ff,ff,ff,ff,ff,ff,ff,ff,ff,ff,ff,ff,ff,ff,ff,ff,ff,ff,ff,ff,ff,ff,ff] rfl rfl (by kernel_rfl) (fun _ _ _ h => h) (Or.inl ⟨by rfl, ?_⟩) hHeld ?_ ?_
      rotate_left
      · rintro w' ⟨s0, s1, s2, s3, s4, s5, s6, s7, s8, s9, s10⟩
        go_simp
        with_reducible rfl
      rotate_left
      · simp only [Act.put, setA, setZ, setS, i64_w, i32_w]
        rfl
      refine take_ (i := 1) (N := some 59) (v := ?_) (a' := ?_) #[tt,tt,ff,ff,ff,ff,ff,ff,ff,ff,ff,ff,ff,ff,ff,ff,ff,ff,ff,ff,ff,ff,ff,ff,ff,ff,ff,ff,ff,ff,ff,ff,ff,ff,ff] rfl rfl (by kernel_rfl) (fun _ _ _ h => h) (Or.inl ⟨by rfl, ?_⟩) hHeld ?_ ?_
      rotate_left
      · rintro w' ⟨s0, s1, s2, s3, s4, s5, s6, s7, s8, s9, s10⟩
        go_simp
        with_reducible rfl
      rotate_left
      · simp only [Act.put, setA, setZ, setS, i64_w, i32_w]
        rfl
      refine pure_ (i := 2) (N := some 60) (v := ?_) (a' := ?_) #[tt,tt,tt,ff,ff,ff,ff,ff,ff,ff,ff,ff,ff,ff,ff,ff,ff,ff,ff,ff,ff,ff,ff,ff,ff,ff,ff,ff,ff,ff,ff,ff,ff,ff,ff] rfl rfl (by kernel_rfl) (fun _ _ _ h => h) (Or.inl ⟨by rfl, ?_⟩) ?_ ?_
      rotate_left
      · intro w'
        go_simp
        with_reducible rfl
      rotate_left
      · simp only [Act.put, setA, setZ, setS, i64_w, i32_w]
        rfl
      refine pure_ (i := 3) (N := some 61) (v := ?_) (a' := ?_) #[tt,tt,tt,tt,ff,ff,ff,ff,ff,ff,ff,ff,ff,ff,ff,ff,ff,ff,ff,ff,ff,ff,ff,ff,ff,ff,ff,ff,ff,ff,ff,ff,ff,ff,ff] rfl rfl (by kernel_rfl) (fun _ _ _ h => h) (Or.inl ⟨by rfl, ?_⟩) ?_ ?_
      rotate_left
      · intro w'
        go_simp
        with_reducible rfl
      rotate_left
      · simp only [Act.put, setA, setZ, setS, i64_w, i32_w]
        rfl
      refine pure_ (i := 4) (N := some 62) (v := ?_) (a' := ?_) #[tt,tt,tt,tt,tt,ff,ff,ff,ff,ff,ff,ff,ff,ff,ff,ff,ff,ff,ff,ff,ff,ff,ff,ff,ff,ff,ff,ff,ff,ff,ff,ff,ff,ff,ff] rfl rfl (by kernel_rfl) (fun _ _ _ h => h) (Or.inl ⟨by rfl, ?_⟩) ?_ ?_
      rotate_left
      · intro w'
        go_simp
        with_reducible rfl
      rotate_left
      · simp only [Act.put, setA, setZ, setS, i64_w, i32_w]
        rfl
      refine take_ (i := 5) (N := some 63) (v := ?_) (a' := ?_) #[tt,tt,tt,tt,tt,tt,ff,ff,ff,ff,ff,ff,ff,ff,ff,ff,ff,ff,ff,ff,ff,ff,ff,ff,ff,ff,ff,ff,ff,ff,ff,ff,ff,ff,ff] rfl rfl (by kernel_rfl) (fun _ _ _ h => h) (Or.inl ⟨by rfl, ?_⟩) hHeld ?_ ?_
      rotate_left
      · rintro w' ⟨s0, s1, s2, s3, s4, s5, s6, s7, s8, s9, s10⟩
        go_simp
        with_reducible rfl
      rotate_left
      · simp only [Act.put, setA, setZ, setS, i64_w, i32_w]
        rfl
      refine take_ (i := 6) (N := some 64) (v := ?_) (a' := ?_) #[tt,tt,tt,tt,tt,tt,tt,ff,ff,ff,ff,ff,ff,ff,ff,ff,ff,ff,ff,ff,ff,ff,ff,ff,ff,ff,ff,ff,ff,ff,ff,ff,ff,ff,ff] rfl rfl (by kernel_rfl) (fun _ _ _ h => h) (Or.inl ⟨by rfl, ?_⟩) hHeld ?_ ?_
      rotate_left
      · rintro w' ⟨s0, s1, s2, s3, s4, s5, s6, s7, s8, s9, s10⟩
        go_simp
        with_reducible rfl
      rotate_left
      · simp only [Act.put, setA, setZ, setS, i64_w, i32_w]
        rfl
      refine pure_ (i := 7) (N := some 65) (v := ?_) (a' := ?_) #[tt,tt,tt,tt,tt,tt,tt,tt,ff,ff,ff,ff,ff,ff,ff,ff,ff,ff,ff,ff,ff,ff,ff,ff,ff,ff,ff,ff,ff,ff,ff,ff,ff,ff,ff] rfl rfl (by kernel_rfl) (fun _ _ _ h => h) (Or.inl ⟨by rfl, ?_⟩) ?_ ?_
      rotate_left
      · intro w'
        go_simp
        with_reducible rfl
      rotate_left
      · simp only [Act.put, setA, setZ, setS, i64_w, i32_w]
        rfl
      refine pure_ (i := 8) (N := some 66) (v := ?_) (a' := ?_) #[tt,tt,tt,tt,tt,tt,tt,tt,tt,ff,ff,ff,ff,ff,ff,ff,ff,ff,ff,ff,ff,ff,ff,ff,ff,ff,ff,ff,ff,ff,ff,ff,ff,ff,ff] rfl rfl (by kernel_rfl) (fun _ _ _ h => h) (Or.inl ⟨by rfl, ?_⟩) ?_ ?_
      rotate_left
      · intro w'
        go_simp
        with_reducible rfl
      rotate_left
      · simp only [Act.put, setA, setZ, setS, i64_w, i32_w]
        rfl
      refine take_ (i := 9) (N := some 67) (v := ?_) (a' := ?_) #[tt,tt,tt,tt,tt,tt,tt,tt,tt,tt,ff,ff,ff,ff,ff,ff,ff,ff,ff,ff,ff,ff,ff,ff,ff,ff,ff,ff,ff,ff,ff,ff,ff,ff,ff] rfl rfl (by kernel_rfl) (fun _ _ _ h => h) (Or.inl ⟨by rfl, ?_⟩) hHeld ?_ ?_
      rotate_left
      · rintro w' ⟨s0, s1, s2, s3, s4, s5, s6, s7, s8, s9, s10⟩
        go_simp
        with_reducible rfl
      rotate_left
      · simp only [Act.put, setA, setZ, setS, i64_w, i32_w]
        rfl
      refine pure_ (i := 10) (N := some 68) (v := ?_) (a' := ?_) #[tt,tt,tt,tt,tt,tt,tt,tt,tt,tt,tt,ff,ff,ff,ff,ff,ff,ff,ff,ff,ff,ff,ff,ff,ff,ff,ff,ff,ff,ff,ff,ff,ff,ff,ff] rfl rfl (by kernel_rfl) (fun _ _ _ h => h) (Or.inl ⟨by rfl, ?_⟩) ?_ ?_
      rotate_left
      · intro w'
        go_simp
        with_reducible rfl
      rotate_left
      · simp only [Act.put, setA, setZ, setS, i64_w, i32_w]
        rfl
      refine pure_ (i := 11) (N := some 69) (v := ?_) (a' := ?_) #[tt,tt,tt,tt,tt,tt,tt,tt,tt,tt,tt,tt,ff,ff,ff,ff,ff,ff,ff,ff,ff,ff,ff,ff,ff,ff,ff,ff,ff,ff,ff,ff,ff,ff,ff] rfl rfl (by kernel_rfl) (fun _ _ _ h => h) (Or.inl ⟨by rfl, ?_⟩) ?_ ?_
      rotate_left
      · intro w'
        go_simp
        with_reducible rfl
      rotate_left
      · simp only [Act.put, setA, setZ, setS, i64_w, i32_w]
        rfl
      refine pure_ (i := 12) (N := some 70) (v := ?_) (a' := ?_) #[tt,tt,tt,tt,tt,tt,tt,tt,tt,tt,tt,tt,tt,ff,ff,ff,ff,ff,ff,ff,ff,ff,ff,ff,ff,ff,ff,ff,ff,ff,ff,ff,ff,ff,ff] rfl rfl (by kernel_rfl) (fun _ _ _ h => h) (Or.inl ⟨by rfl, ?_⟩) ?_ ?_
      rotate_left
      · intro w'
        go_simp
        with_reducible rfl
      rotate_left
      · simp only [Act.put, setA, setZ, setS, i64_w, i32_w]
        rfl
      refine pure_ (i := 13) (N := some 71) (v := ?_) (a' := ?_) #[tt,tt,tt,tt,tt,tt,tt,tt,tt,tt,tt,tt,tt,tt,ff,ff,ff,ff,ff,ff,ff,ff,ff,ff,ff,ff,ff,ff,ff,ff,ff,ff,ff,ff,ff] rfl rfl (by kernel_rfl) (fun _ _ _ h => h) (Or.inl ⟨by rfl, ?_⟩) ?_ ?_
      rotate_left
      · intro w'
        go_simp
        with_reducible rfl
      rotate_left
      · simp only [Act.put, setA, setZ, setS, i64_w, i32_w]
        rfl
      refine pure_ (i := 14) (N := some 72) (v := undef) (a' := ?_) #[tt,tt,tt,tt,tt,tt,tt,tt,tt,tt,tt,tt,tt,tt,tt,ff,ff,ff,ff,ff,ff,ff,ff,ff,ff,ff,ff,ff,ff,ff,ff,ff,ff,ff,ff] rfl rfl (by kernel_rfl) (fun _ _ _ h => h) (Or.inr ⟨by rfl, rfl⟩) ?_ ?_
      rotate_left
      · simp only [Act.put, setA, setZ, setS, i64_w, i32_w]
        rfl
      refine pure_ (i := 16) (N := some 74) (v := undef) (a' := ?_) #[tt,tt,tt,tt,tt,tt,tt,tt,tt,tt,tt,tt,tt,tt,tt,ff,tt,ff,ff,ff,ff,ff,ff,ff,ff,ff,ff,ff,ff,ff,ff,ff,ff,ff,ff] rfl rfl (by kernel_rfl) (fun _ _ _ h => h) (Or.inr ⟨by rfl, rfl⟩) ?_ ?_
      rotate_left
      · simp only [Act.put, setA, setZ, setS, i64_w, i32_w]
        rfl
      refine pure_ (i := 17) (N := some 75) (v := undef) (a' := ?_) #[tt,tt,tt,tt,tt,tt,tt,tt,tt,tt,tt,tt,tt,tt,tt,ff,tt,tt,ff,ff,ff,ff,ff,ff,ff,ff,ff,ff,ff,ff,ff,ff,ff,ff,ff] rfl rfl (by kernel_rfl) (fun _ _ _ h => h) (Or.inr ⟨by rfl, rfl⟩) ?_ ?_
      rotate_left
      · simp only [Act.put, setA, setZ, setS, i64_w, i32_w]
        rfl
      refine pure_ (i := 18) (N := some 76) (v := undef) (a' := ?_) #[tt,tt,tt,tt,tt,tt,tt,tt,tt,tt,tt,tt,tt,tt,tt,ff,tt,tt,tt,ff,ff,ff,ff,ff,ff,ff,ff,ff,ff,ff,ff,ff,ff,ff,ff] rfl rfl (by kernel_rfl) (fun _ _ _ h => h) (Or.inr ⟨by rfl, rfl⟩) ?_ ?_
      rotate_left
      · simp only [Act.put, setA, setZ, setS, i64_w, i32_w]
        rfl
      refine pure_ (i := 19) (N := some 77) (v := undef) (a' := ?_) #[tt,tt,tt,tt,tt,tt,tt,tt,tt,tt,tt,tt,tt,tt,tt,ff,tt,tt,tt,tt,ff,ff,ff,ff,ff,ff,ff,ff,ff,ff,ff,ff,ff,ff,ff] rfl rfl (by kernel_rfl) (fun _ _ _ h => h) (Or.inr ⟨by rfl, rfl⟩) ?_ ?_
      rotate_left
      · simp only [Act.put, setA, setZ, setS, i64_w, i32_w]
        rfl
      refine pure_ (i := 20) (N := some 78) (v := undef) (a' := ?_) #[tt,tt,tt,tt,tt,tt,tt,tt,tt,tt,tt,tt,tt,tt,tt,ff,tt,tt,tt,tt,tt,ff,ff,ff,ff,ff,ff,ff,ff,ff,ff,ff,ff,ff,ff] rfl rfl (by kernel_rfl) (fun _ _ _ h => h) (Or.inr ⟨by rfl, rfl⟩) ?_ ?_
      rotate_left
      · simp only [Act.put, setA, setZ, setS, i64_w, i32_w]
        rfl
      refine pure_ (i := 15) (N := some 73) (v := undef) (a' := ?_) #[tt,tt,tt,tt,tt,tt,tt,tt,tt,tt,tt,tt,tt,tt,tt,tt,tt,tt,tt,tt,tt,ff,ff,ff,ff,ff,ff,ff,ff,ff,ff,ff,ff,ff,ff] rfl rfl (by kernel_rfl) (fun _ _ _ h => h) (Or.inr ⟨by rfl, rfl⟩) ?_ ?_
      rotate_left
      · simp only [Act.put, setA, setZ, setS, i64_w, i32_w]
        rfl
      refine pure_ (i := 21) (N := some 79) (v := undef) (a' := ?_) #[tt,tt,tt,tt,tt,tt,tt,tt,tt,tt,tt,tt,tt,tt,tt,tt,tt,tt,tt,tt,tt,tt,ff,ff,ff,ff,ff,ff,ff,ff,ff,ff,ff,ff,ff] rfl rfl (by kernel_rfl) (fun _ _ _ h => h) (Or.inr ⟨by rfl, rfl⟩) ?_ ?_
      rotate_left
      · simp only [Act.put, setA, setZ, setS, i64_w, i32_w]
        rfl
      refine pure_ (i := 22) (N := some 80) (v := undef) (a' := ?_) #[tt,tt,tt,tt,tt,tt,tt,tt,tt,tt,tt,tt,tt,tt,tt,tt,tt,tt,tt,tt,tt,tt,tt,ff,ff,ff,ff,ff,ff,ff,ff,ff,ff,ff,ff] rfl rfl (by kernel_rfl) (fun _ _ _ h => h) (Or.inr ⟨by rfl, rfl⟩) ?_ ?_
      rotate_left
      · simp only [Act.put, setA, setZ, setS, i64_w, i32_w]
        rfl
      refine pure_ (i := 23) (N := some 81) (v := ?_) (a' := ?_) #[tt,tt,tt,tt,tt,tt,tt,tt,tt,tt,tt,tt,tt,tt,tt,tt,tt,tt,tt,tt,tt,tt,tt,tt,ff,ff,ff,ff,ff,ff,ff,ff,ff,ff,ff] rfl rfl (by kernel_rfl) (fun _ _ _ h => h) (Or.inl ⟨by rfl, ?_⟩) ?_ ?_
      rotate_left
      · intro w'
        go_simp
        with_reducible rfl
      rotate_left
      · simp only [Act.put, setA, setZ, setS, i64_w, i32_w]
        rfl
      refine pure_ (i := 24) (N := some 82) (v := ?_) (a' := ?_) #[tt,tt,tt,tt,tt,tt,tt,tt,tt,tt,tt,tt,tt,tt,tt,tt,tt,tt,tt,tt,tt,tt,tt,tt,tt,ff,ff,ff,ff,ff,ff,ff,ff,ff,ff] rfl rfl (by kernel_rfl) (fun _ _ _ h => h) (Or.inl ⟨by rfl, ?_⟩) ?_ ?_
      rotate_left
      · intro w'
        go_simp
        with_reducible rfl
      rotate_left
      · simp only [Act.put, setA, setZ, setS, i64_w, i32_w]
        rfl
      refine pure_ (i := 25) (N := some 83) (v := undef) (a' := ?_) #[tt,tt,tt,tt,tt,tt,tt,tt,tt,tt,tt,tt,tt,tt,tt,tt,tt,tt,tt,tt,tt,tt,tt,tt,tt,tt,ff,ff,ff,ff,ff,ff,ff,ff,ff] rfl rfl (by kernel_rfl) (fun _ _ _ h => h) (Or.inr ⟨by rfl, rfl⟩) ?_ ?_
      rotate_left
      · simp only [Act.put, setA, setZ, setS, i64_w, i32_w]
        rfl
      refine pure_ (i := 26) (N := some 84) (v := undef) (a' := ?_) #[tt,tt,tt,tt,tt,tt,tt,tt,tt,tt,tt,tt,tt,tt,tt,tt,tt,tt,tt,tt,tt,tt,tt,tt,tt,tt,tt,ff,ff,ff,ff,ff,ff,ff,ff] rfl rfl (by kernel_rfl) (fun _ _ _ h => h) (Or.inr ⟨by rfl, rfl⟩) ?_ ?_
      rotate_left
      · simp only [Act.put, setA, setZ, setS, i64_w, i32_w]
        rfl
      refine pure_ (i := 27) (N := some 85) (v := undef) (a' := ?_) #[tt,tt,tt,tt,tt,tt,tt,tt,tt,tt,tt,tt,tt,tt,tt,tt,tt,tt,tt,tt,tt,tt,tt,tt,tt,tt,tt,tt,ff,ff,ff,ff,ff,ff,ff] rfl rfl (by kernel_rfl) (fun _ _ _ h => h) (Or.inr ⟨by rfl, rfl⟩) ?_ ?_
      rotate_left
      · simp only [Act.put, setA, setZ, setS, i64_w, i32_w]
        rfl
      refine pure_ (i := 28) (N := some 86) (v := undef) (a' := ?_) #[tt,tt,tt,tt,tt,tt,tt,tt,tt,tt,tt,tt,tt,tt,tt,tt,tt,tt,tt,tt,tt,tt,tt,tt,tt,tt,tt,tt,tt,ff,ff,ff,ff,ff,ff] rfl rfl (by kernel_rfl) (fun _ _ _ h => h) (Or.inr ⟨by rfl, rfl⟩) ?_ ?_
      rotate_left
      · simp only [Act.put, setA, setZ, setS, i64_w, i32_w]
        rfl
      refine pure_ (i := 29) (N := some 87) (v := undef) (a' := ?_) #[tt,tt,tt,tt,tt,tt,tt,tt,tt,tt,tt,tt,tt,tt,tt,tt,tt,tt,tt,tt,tt,tt,tt,tt,tt,tt,tt,tt,tt,tt,ff,ff,ff,ff,ff] rfl rfl (by kernel_rfl) (fun _ _ _ h => h) (Or.inr ⟨by rfl, rfl⟩) ?_ ?_
      rotate_left
      · simp only [Act.put, setA, setZ, setS, i64_w, i32_w]
        rfl
      refine pure_ (i := 30) (N := some 88) (v := undef) (a' := ?_) #[tt,tt,tt,tt,tt,tt,tt,tt,tt,tt,tt,tt,tt,tt,tt,tt,tt,tt,tt,tt,tt,tt,tt,tt,tt,tt,tt,tt,tt,tt,tt,ff,ff,ff,ff] rfl rfl (by kernel_rfl) (fun _ _ _ h => h) (Or.inr ⟨by rfl, rfl⟩) ?_ ?_
      rotate_left
      · simp only [Act.put, setA, setZ, setS, i64_w, i32_w]
        rfl
      refine pure_ (i := 31) (N := some 89) (v := undef) (a' := ?_) #[tt,tt,tt,tt,tt,tt,tt,tt,tt,tt,tt,tt,tt,tt,tt,tt,tt,tt,tt,tt,tt,tt,tt,tt,tt,tt,tt,tt,tt,tt,tt,tt,ff,ff,ff] rfl rfl (by kernel_rfl) (fun _ _ _ h => h) (Or.inr ⟨by rfl, rfl⟩) ?_ ?_
      rotate_left
      · simp only [Act.put, setA, setZ, setS, i64_w, i32_w]
        rfl
      refine pure_ (i := 32) (N := some 90) (v := undef) (a' := ?_) #[tt,tt,tt,tt,tt,tt,tt,tt,tt,tt,tt,tt,tt,tt,tt,tt,tt,tt,tt,tt,tt,tt,tt,tt,tt,tt,tt,tt,tt,tt,tt,tt,tt,ff,ff] rfl rfl (by kernel_rfl) (fun _ _ _ h => h) (Or.inr ⟨by rfl, rfl⟩) ?_ ?_
      rotate_left
      · simp only [Act.put, setA, setZ, setS, i64_w, i32_w]
        rfl
      refine pure_ (i := 33) (N := some 91) (v := undef) (a' := ?_) #[tt,tt,tt,tt,tt,tt,tt,tt,tt,tt,tt,tt,tt,tt,tt,tt,tt,tt,tt,tt,tt,tt,tt,tt,tt,tt,tt,tt,tt,tt,tt,tt,tt,tt,ff] rfl rfl (by kernel_rfl) (fun _ _ _ h => h) (Or.inr ⟨by rfl, rfl⟩) ?_ ?_
      rotate_left
      · simp only [Act.put, setA, setZ, setS, i64_w, i32_w]
        rfl
      refine pure_ (i := 34) (N := some 92) (v := ?_) (a' := ?_) #[tt,tt,tt,tt,tt,tt,tt,tt,tt,tt,tt,tt,tt,tt,tt,tt,tt,tt,tt,tt,tt,tt,tt,tt,tt,tt,tt,tt,tt,tt,tt,tt,tt,tt,tt] rfl rfl (by kernel_rfl) (fun _ _ _ h => h) (Or.inl ⟨by rfl, ?_⟩) ?_ ?_
      rotate_left
      · intro w'
        go_simp
        with_reducible rfl
      rotate_left
      · simp only [Act.put, setA, setZ, setS, i64_w, i32_w]
        rfl
      refine done_ (by kernel_rfl) (OnlyN.normal ?_)
      show Exit.then _ _ _ _ _
      have hx0 : Boxed W.drew w.heap.size 4 (.bool false) := (hWd.block _ (Array.getElem?_eq_some_iff.1 H0.out).1).trans H0.out
      have e0 := hx0.cell
      have f0' := hx0.frozen
      have hk : KeepsOthers W W.drew := ⟨hWd.size, fun k o ho _ => (hWd.block k (Array.getElem?_eq_some_iff.1 ho).1).trans ho⟩
      have HKO := Lib.hid hk
      clear hHeld hk hx0
      gi_wp2
      exact ⟨(HKO.out.trans (KeepsOthers.setCell _ _ _)).from _, rfl, HNOT.out⟩
    | false =>
      have hd1' : (xj.1 == y.1.d) = true := by simpa using hd1
      cases hd2 : (p1.toList != p2.toList) with
      | true =>
        have hd2' : (p1.toList == p2.toList) = false := by simpa using hd2
        have hne : xj ≠ (y.1.d, y.1.n) := fun e => by
          have h1 := HP1e.out
          have h2 := HP2e.out
          rw [e] at h2
          dsimp only at h2
          rw [← h1, ← h2] at hd2
          simp at hd2
        have HNOT := Lib.hid (HNT.out hne)
        clear hne
        gi_wp2
        refine start_inN (n := 35) (S := RS (w10.heap.size + 1) w10.heap.size pre.length Bx ad (pre.length : Int) (sizeT m) f0 xj A4 c4 y.1.n y.1.A y.1.c) (ds := []) _ _ #[ff,ff,ff,ff,ff,ff,ff,ff,ff,ff,ff,ff,ff,ff,ff,ff,ff,ff,ff,ff,ff,ff,ff,ff,ff,ff,ff,ff,ff,ff,ff,ff,ff,ff,ff] (by kernel_rfl) rfl rfl HS0d.out (by kernel_rfl) (fun hHeld => ?_)
        refine take_ (i := 0) (N := some 58) (v := ?_) (a' := ?_) #[tt,ff,ff,ff,ff,ff,ff,ff,ff,ff,ff,ff,ff,ff,ff,ff,ff,ff,ff,ff,ff,ff,ff,ff,ff,ff,ff,ff,ff,ff,ff,ff,ff,ff,ff] rfl rfl (by kernel_rfl) (fun _ _ _ h => h) (Or.inl ⟨by rfl, ?_⟩) hHeld ?_ ?_
        rotate_left
        · rintro w' ⟨s0, s1, s2, s3, s4, s5, s6, s7, s8, s9, s10⟩
          go_simp
          with_reducible rfl
        rotate_left
        · simp only [Act.put, setA, setZ, setS, i64_w, i32_w]
          rfl
        refine take_ (i := 1) (N := some 59) (v := ?_) (a' := ?_) #[tt,tt,ff,ff,ff,ff,ff,ff,ff,ff,ff,ff,ff,ff,ff,ff,ff,ff,ff,ff,ff,ff,ff,ff,ff,ff,ff,ff,ff,ff,ff,ff,ff,ff,ff] rfl rfl (by kernel_rfl) (fun _ _ _ h => h) (Or.inl ⟨by rfl, ?_⟩) hHeld ?_ ?_
        rotate_left
        · rintro w' ⟨s0, s1, s2, s3, s4, s5, s6, s7, s8, s9, s10⟩
          go_simp
          with_reducible rfl
        rotate_left
        · simp only [Act.put, setA, setZ, setS, i64_w, i32_w]
          rfl
        refine pure_ (i := 2) (N := some 60) (v := ?_) (a' := ?_) #[tt,tt,tt,ff,ff,ff,ff,ff,ff,ff,ff,ff,ff,ff,ff,ff,ff,ff,ff,ff,ff,ff,ff,ff,ff,ff,ff,ff,ff,ff,ff,ff,ff,ff,ff] rfl rfl (by kernel_rfl) (fun _ _ _ h => h) (Or.inl ⟨by rfl, ?_⟩) ?_ ?_
        rotate_left
        · intro w'
          go_simp
          with_reducible rfl
        rotate_left
        · simp only [Act.put, setA, setZ, setS, i64_w, i32_w]
          rfl
        refine pure_ (i := 3) (N := some 61) (v := ?_) (a' := ?_) #[tt,tt,tt,tt,ff,ff,ff,ff,ff,ff,ff,ff,ff,ff,ff,ff,ff,ff,ff,ff,ff,ff,ff,ff,ff,ff,ff,ff,ff,ff,ff,ff,ff,ff,ff] rfl rfl (by kernel_rfl) (fun _ _ _ h => h) (Or.inl ⟨by rfl, ?_⟩) ?_ ?_
        rotate_left
        · intro w'
          go_simp
          with_reducible rfl
        rotate_left
        · simp only [Act.put, setA, setZ, setS, i64_w, i32_w]
          rfl
        refine pure_ (i := 4) (N := some 62) (v := ?_) (a' := ?_) #[tt,tt,tt,tt,tt,ff,ff,ff,ff,ff,ff,ff,ff,ff,ff,ff,ff,ff,ff,ff,ff,ff,ff,ff,ff,ff,ff,ff,ff,ff,ff,ff,ff,ff,ff] rfl rfl (by kernel_rfl) (fun _ _ _ h => h) (Or.inl ⟨by rfl, ?_⟩) ?_ ?_
        rotate_left
        · intro w'
          go_simp
          with_reducible rfl
        rotate_left
        · simp only [Act.put, setA, setZ, setS, i64_w, i32_w]
          rfl
        refine take_ (i := 5) (N := some 63) (v := ?_) (a' := ?_) #[tt,tt,tt,tt,tt,tt,ff,ff,ff,ff,ff,ff,ff,ff,ff,ff,ff,ff,ff,ff,ff,ff,ff,ff,ff,ff,ff,ff,ff,ff,ff,ff,ff,ff,ff] rfl rfl (by kernel_rfl) (fun _ _ _ h => h) (Or.inl ⟨by rfl, ?_⟩) hHeld ?_ ?_
        rotate_left
        · rintro w' ⟨s0, s1, s2, s3, s4, s5, s6, s7, s8, s9, s10⟩
          go_simp
          with_reducible rfl
        rotate_left
        · simp only [Act.put, setA, setZ, setS, i64_w, i32_w]
          rfl
        refine take_ (i := 6) (N := some 64) (v := ?_) (a' := ?_) #[tt,tt,tt,tt,tt,tt,tt,ff,ff,ff,ff,ff,ff,ff,ff,ff,ff,ff,ff,ff,ff,ff,ff,ff,ff,ff,ff,ff,ff,ff,ff,ff,ff,ff,ff] rfl rfl (by kernel_rfl) (fun _ _ _ h => h) (Or.inl ⟨by rfl, ?_⟩) hHeld ?_ ?_
        rotate_left
        · rintro w' ⟨s0, s1, s2, s3, s4, s5, s6, s7, s8, s9, s10⟩
          go_simp
          with_reducible rfl
        rotate_left
        · simp only [Act.put, setA, setZ, setS, i64_w, i32_w]
          rfl
        refine pure_ (i := 7) (N := some 65) (v := ?_) (a' := ?_) #[tt,tt,tt,tt,tt,tt,tt,tt,ff,ff,ff,ff,ff,ff,ff,ff,ff,ff,ff,ff,ff,ff,ff,ff,ff,ff,ff,ff,ff,ff,ff,ff,ff,ff,ff] rfl rfl (by kernel_rfl) (fun _ _ _ h => h) (Or.inl ⟨by rfl, ?_⟩) ?_ ?_
        rotate_left
        · intro w'
          go_simp
          with_reducible rfl
        rotate_left
        · simp only [Act.put, setA, setZ, setS, i64_w, i32_w]
          rfl
        refine pure_ (i := 8) (N := some 66) (v := ?_) (a' := ?_) #[tt,tt,tt,tt,tt,tt,tt,tt,tt,ff,ff,ff,ff,ff,ff,ff,ff,ff,ff,ff,ff,ff,ff,ff,ff,ff,ff,ff,ff,ff,ff,ff,ff,ff,ff] rfl rfl (by kernel_rfl) (fun _ _ _ h => h) (Or.inl ⟨by rfl, ?_⟩) ?_ ?_
        rotate_left
        · intro w'
          go_simp
          with_reducible rfl
        rotate_left
        · simp only [Act.put, setA, setZ, setS, i64_w, i32_w]
          rfl
        refine take_ (i := 9) (N := some 67) (v := ?_) (a' := ?_) #[tt,tt,tt,tt,tt,tt,tt,tt,tt,tt,ff,ff,ff,ff,ff,ff,ff,ff,ff,ff,ff,ff,ff,ff,ff,ff,ff,ff,ff,ff,ff,ff,ff,ff,ff] rfl rfl (by kernel_rfl) (fun _ _ _ h => h) (Or.inl ⟨by rfl, ?_⟩) hHeld ?_ ?_
        rotate_left
        · rintro w' ⟨s0, s1, s2, s3, s4, s5, s6, s7, s8, s9, s10⟩
          go_simp
          with_reducible rfl
        rotate_left
        · simp only [Act.put, setA, setZ, setS, i64_w, i32_w]
          rfl
        refine pure_ (i := 10) (N := some 68) (v := ?_) (a' := ?_) #[tt,tt,tt,tt,tt,tt,tt,tt,tt,tt,tt,ff,ff,ff,ff,ff,ff,ff,ff,ff,ff,ff,ff,ff,ff,ff,ff,ff,ff,ff,ff,ff,ff,ff,ff] rfl rfl (by kernel_rfl) (fun _ _ _ h => h) (Or.inl ⟨by rfl, ?_⟩) ?_ ?_
        rotate_left
        · intro w'
          go_simp
          with_reducible rfl
        rotate_left
        · simp only [Act.put, setA, setZ, setS, i64_w, i32_w]
          rfl
        refine pure_ (i := 11) (N := some 69) (v := ?_) (a' := ?_) #[tt,tt,tt,tt,tt,tt,tt,tt,tt,tt,tt,tt,ff,ff,ff,ff,ff,ff,ff,ff,ff,ff,ff,ff,ff,ff,ff,ff,ff,ff,ff,ff,ff,ff,ff] rfl rfl (by kernel_rfl) (fun _ _ _ h => h) (Or.inl ⟨by rfl, ?_⟩) ?_ ?_
        rotate_left
        · intro w'
          go_simp
          with_reducible rfl
        rotate_left
        · simp only [Act.put, setA, setZ, setS, i64_w, i32_w]
          rfl
        refine pure_ (i := 12) (N := some 70) (v := ?_) (a' := ?_) #[tt,tt,tt,tt,tt,tt,tt,tt,tt,tt,tt,tt,tt,ff,ff,ff,ff,ff,ff,ff,ff,ff,ff,ff,ff,ff,ff,ff,ff,ff,ff,ff,ff,ff,ff] rfl rfl (by kernel_rfl) (fun _ _ _ h => h) (Or.inl ⟨by rfl, ?_⟩) ?_ ?_
        rotate_left
        · intro w'
          go_simp
          with_reducible rfl
        rotate_left
        · simp only [Act.put, setA, setZ, setS, i64_w, i32_w]
          rfl
        refine pure_ (i := 13) (N := some 71) (v := ?_) (a' := ?_) #[tt,tt,tt,tt,tt,tt,tt,tt,tt,tt,tt,tt,tt,tt,ff,ff,ff,ff,ff,ff,ff,ff,ff,ff,ff,ff,ff,ff,ff,ff,ff,ff,ff,ff,ff] rfl rfl (by kernel_rfl) (fun _ _ _ h => h) (Or.inl ⟨by rfl, ?_⟩) ?_ ?_
        rotate_left
        · intro w'
          go_simp
          with_reducible rfl
        rotate_left
        · simp only [Act.put, setA, setZ, setS, i64_w, i32_w]
          rfl
        refine take_ (i := 14) (N := some 72) (v := ?_) (a' := ?_) #[tt,tt,tt,tt,tt,tt,tt,tt,tt,tt,tt,tt,tt,tt,tt,ff,ff,ff,ff,ff,ff,ff,ff,ff,ff,ff,ff,ff,ff,ff,ff,ff,ff,ff,ff] rfl rfl (by kernel_rfl) (fun _ _ _ h => h) (Or.inl ⟨by rfl, ?_⟩) hHeld ?_ ?_
        rotate_left
        · rintro w' ⟨s0, s1, s2, s3, s4, s5, s6, s7, s8, s9, s10⟩
          go_simp
          with_reducible rfl
        rotate_left
        · simp only [Act.put, setA, setZ, setS, i64_w, i32_w]
          rfl
        refine take_ (i := 16) (N := some 74) (v := ?_) (a' := ?_) #[tt,tt,tt,tt,tt,tt,tt,tt,tt,tt,tt,tt,tt,tt,tt,ff,tt,ff,ff,ff,ff,ff,ff,ff,ff,ff,ff,ff,ff,ff,ff,ff,ff,ff,ff] rfl rfl (by kernel_rfl) (fun _ _ _ h => h) (Or.inl ⟨by rfl, ?_⟩) hHeld ?_ ?_
        rotate_left
        · rintro w' ⟨s0, s1, s2, s3, s4, s5, s6, s7, s8, s9, s10⟩
          go_simp
          with_reducible rfl
        rotate_left
        · simp only [Act.put, setA, setZ, setS, i64_w, i32_w]
          rfl
        refine take_ (i := 17) (N := some 75) (v := ?_) (a' := ?_) #[tt,tt,tt,tt,tt,tt,tt,tt,tt,tt,tt,tt,tt,tt,tt,ff,tt,tt,ff,ff,ff,ff,ff,ff,ff,ff,ff,ff,ff,ff,ff,ff,ff,ff,ff] rfl rfl (by kernel_rfl) (fun _ _ _ h => h) (Or.inl ⟨by rfl, ?_⟩) hHeld ?_ ?_
        rotate_left
        · rintro w' ⟨s0, s1, s2, s3, s4, s5, s6, s7, s8, s9, s10⟩
          go_simp
          with_reducible rfl
        rotate_left
        · simp only [Act.put, setA, setZ, setS, i64_w, i32_w]
          rfl
        refine pure_ (i := 18) (N := some 76) (v := ?_) (a' := ?_) #[tt,tt,tt,tt,tt,tt,tt,tt,tt,tt,tt,tt,tt,tt,tt,ff,tt,tt,tt,ff,ff,ff,ff,ff,ff,ff,ff,ff,ff,ff,ff,ff,ff,ff,ff] rfl rfl (by kernel_rfl) (fun _ _ _ h => h) (Or.inl ⟨by rfl, ?_⟩) ?_ ?_
        rotate_left
        · intro w'
          go_simp
          with_reducible rfl
        rotate_left
        · simp only [Act.put, setA, setZ, setS, i64_w, i32_w]
          rfl
        refine pure_ (i := 19) (N := some 77) (v := ?_) (a' := ?_) #[tt,tt,tt,tt,tt,tt,tt,tt,tt,tt,tt,tt,tt,tt,tt,ff,tt,tt,tt,tt,ff,ff,ff,ff,ff,ff,ff,ff,ff,ff,ff,ff,ff,ff,ff] rfl rfl (by kernel_rfl) (fun _ _ _ h => h) (Or.inl ⟨by rfl, ?_⟩) ?_ ?_
        rotate_left
        · intro w'
          go_simp
          with_reducible rfl
        rotate_left
        · simp only [Act.put, setA, setZ, setS, i64_w, i32_w]
          rfl
        refine take_ (i := 20) (N := some 78) (v := ?_) (a' := ?_) #[tt,tt,tt,tt,tt,tt,tt,tt,tt,tt,tt,tt,tt,tt,tt,ff,tt,tt,tt,tt,tt,ff,ff,ff,ff,ff,ff,ff,ff,ff,ff,ff,ff,ff,ff] rfl rfl (by kernel_rfl) (fun _ _ _ h => h) (Or.inl ⟨by rfl, ?_⟩) hHeld ?_ ?_
        rotate_left
        · rintro w' ⟨s0, s1, s2, s3, s4, s5, s6, s7, s8, s9, s10⟩
          go_simp
          with_reducible rfl
        rotate_left
        · simp only [Act.put, setA, setZ, setS, i64_w, i32_w]
          rfl
        refine one_ (i := 15) (N := some 73) #[tt,tt,tt,tt,tt,tt,tt,tt,tt,tt,tt,tt,tt,tt,tt,tt,tt,tt,tt,tt,tt,ff,ff,ff,ff,ff,ff,ff,ff,ff,ff,ff,ff,ff,ff] rfl rfl (by kernel_rfl) (by decide) (fun K hK => ?_)
        refine goes_ Tryd.func14 (by kernel_rfl) rfl #[.agg #[.string y.1.n.f0, .string y.1.n.f1, .int .i64 y.1.n.f2, .slice y.1.A y.1.n.f3.length y.1.c]] (by rfl) rfl rfl (by (try simp only [List.map_toArray, List.map_cons, List.map_nil]); first | done | rfl) ?_
        with_reducible refine (HP1.out _ hWd).mono ?_
        rintro e w13 ⟨rfl, hb13⟩
        have hb13' := hWd.trans (hb13.mono hWd.size)
        have hS13 := RS.below HS0.out hb13'
        refine ⟨_, rfl, ?_⟩
        refine hK.out _ _ hS13 (fun hHeld => ?_)
        clear hS13 hb13
        clear hK K
        refine norm_ (a' := ?_) ?_ ?_
        rotate_left
        · show Act.put _ (some 73) _ = _
          simp only [Act.put, setA, setZ, setS, i64_w, i32_w]
          rfl
        refine one_ (i := 21) (N := some 79) #[tt,tt,tt,tt,tt,tt,tt,tt,tt,tt,tt,tt,tt,tt,tt,tt,tt,tt,tt,tt,tt,tt,ff,ff,ff,ff,ff,ff,ff,ff,ff,ff,ff,ff,ff] rfl rfl (by kernel_rfl) (by decide) (fun K hK => ?_)
        refine goes_ Tryd.func17 (by kernel_rfl) rfl #[.agg #[.string xj.2.f0, .string xj.2.f1, .int .i64 xj.2.f2, .slice A4 (tlL xj.2.f3).length c4]] (by rfl) rfl rfl (by (try simp only [List.map_toArray, List.map_cons, List.map_nil]); first | done | rfl) ?_
        with_reducible refine (HP2.out _ hb13').mono ?_
        rintro e w14 ⟨rfl, hb14⟩
        have hb14' := hb13'.trans (hb14.mono hb13'.size)
        have hS14 := RS.below HS0.out hb14'
        refine ⟨_, rfl, ?_⟩
        refine hK.out _ _ hS14 (fun hHeld => ?_)
        clear hS14 hb14
        clear hK K
        refine norm_ (a' := ?_) ?_ ?_
        rotate_left
        · show Act.put _ (some 79) _ = _
          simp only [Act.put, setA, setZ, setS, i64_w, i32_w]
          rfl
        refine pure_ (i := 22) (N := some 80) (v := ?_) (a' := ?_) #[tt,tt,tt,tt,tt,tt,tt,tt,tt,tt,tt,tt,tt,tt,tt,tt,tt,tt,tt,tt,tt,tt,tt,ff,ff,ff,ff,ff,ff,ff,ff,ff,ff,ff,ff] rfl rfl (by kernel_rfl) (fun _ _ _ h => h) (Or.inl ⟨by rfl, ?_⟩) ?_ ?_
        rotate_left
        · intro w'
          go_simp
          with_reducible rfl
        rotate_left
        · simp only [Act.put, setA, setZ, setS, i64_w, i32_w]
          rfl
        refine pure_ (i := 23) (N := some 81) (v := ?_) (a' := ?_) #[tt,tt,tt,tt,tt,tt,tt,tt,tt,tt,tt,tt,tt,tt,tt,tt,tt,tt,tt,tt,tt,tt,tt,tt,ff,ff,ff,ff,ff,ff,ff,ff,ff,ff,ff] rfl rfl (by kernel_rfl) (fun _ _ _ h => h) (Or.inl ⟨by rfl, ?_⟩) ?_ ?_
        rotate_left
        · intro w'
          go_simp
          with_reducible rfl
        rotate_left
        · simp only [Act.put, setA, setZ, setS, i64_w, i32_w]
          rfl
        refine pure_ (i := 24) (N := some 82) (v := ?_) (a' := ?_) #[tt,tt,tt,tt,tt,tt,tt,tt,tt,tt,tt,tt,tt,tt,tt,tt,tt,tt,tt,tt,tt,tt,tt,tt,tt,ff,ff,ff,ff,ff,ff,ff,ff,ff,ff] rfl rfl (by kernel_rfl) (fun _ _ _ h => h) (Or.inl ⟨by rfl, ?_⟩) ?_ ?_
        rotate_left
        · intro w'
          go_simp
          with_reducible rfl
        rotate_left
        · simp only [Act.put, setA, setZ, setS, i64_w, i32_w]
          rfl
        refine pure_ (i := 25) (N := some 83) (v := undef) (a' := ?_) #[tt,tt,tt,tt,tt,tt,tt,tt,tt,tt,tt,tt,tt,tt,tt,tt,tt,tt,tt,tt,tt,tt,tt,tt,tt,tt,ff,ff,ff,ff,ff,ff,ff,ff,ff] rfl rfl (by kernel_rfl) (fun _ _ _ h => h) (Or.inr ⟨by rfl, rfl⟩) ?_ ?_
        rotate_left
        · simp only [Act.put, setA, setZ, setS, i64_w, i32_w]
          rfl
        refine pure_ (i := 26) (N := some 84) (v := undef) (a' := ?_) #[tt,tt,tt,tt,tt,tt,tt,tt,tt,tt,tt,tt,tt,tt,tt,tt,tt,tt,tt,tt,tt,tt,tt,tt,tt,tt,tt,ff,ff,ff,ff,ff,ff,ff,ff] rfl rfl (by kernel_rfl) (fun _ _ _ h => h) (Or.inr ⟨by rfl, rfl⟩) ?_ ?_
        rotate_left
        · simp only [Act.put, setA, setZ, setS, i64_w, i32_w]
          rfl
        refine pure_ (i := 27) (N := some 85) (v := undef) (a' := ?_) #[tt,tt,tt,tt,tt,tt,tt,tt,tt,tt,tt,tt,tt,tt,tt,tt,tt,tt,tt,tt,tt,tt,tt,tt,tt,tt,tt,tt,ff,ff,ff,ff,ff,ff,ff] rfl rfl (by kernel_rfl) (fun _ _ _ h => h) (Or.inr ⟨by rfl, rfl⟩) ?_ ?_
        rotate_left
        · simp only [Act.put, setA, setZ, setS, i64_w, i32_w]
          rfl
        refine pure_ (i := 28) (N := some 86) (v := undef) (a' := ?_) #[tt,tt,tt,tt,tt,tt,tt,tt,tt,tt,tt,tt,tt,tt,tt,tt,tt,tt,tt,tt,tt,tt,tt,tt,tt,tt,tt,tt,tt,ff,ff,ff,ff,ff,ff] rfl rfl (by kernel_rfl) (fun _ _ _ h => h) (Or.inr ⟨by rfl, rfl⟩) ?_ ?_
        rotate_left
        · simp only [Act.put, setA, setZ, setS, i64_w, i32_w]
          rfl
        refine pure_ (i := 29) (N := some 87) (v := undef) (a' := ?_) #[tt,tt,tt,tt,tt,tt,tt,tt,tt,tt,tt,tt,tt,tt,tt,tt,tt,tt,tt,tt,tt,tt,tt,tt,tt,tt,tt,tt,tt,tt,ff,ff,ff,ff,ff] rfl rfl (by kernel_rfl) (fun _ _ _ h => h) (Or.inr ⟨by rfl, rfl⟩) ?_ ?_
        rotate_left
        · simp only [Act.put, setA, setZ, setS, i64_w, i32_w]
          rfl
        refine pure_ (i := 30) (N := some 88) (v := undef) (a' := ?_) #[tt,tt,tt,tt,tt,tt,tt,tt,tt,tt,tt,tt,tt,tt,tt,tt,tt,tt,tt,tt,tt,tt,tt,tt,tt,tt,tt,tt,tt,tt,tt,ff,ff,ff,ff] rfl rfl (by kernel_rfl) (fun _ _ _ h => h) (Or.inr ⟨by rfl, rfl⟩) ?_ ?_
        rotate_left
        · simp only [Act.put, setA, setZ, setS, i64_w, i32_w]
          rfl
        refine pure_ (i := 31) (N := some 89) (v := undef) (a' := ?_) #[tt,tt,tt,tt,tt,tt,tt,tt,tt,tt,tt,tt,tt,tt,tt,tt,tt,tt,tt,tt,tt,tt,tt,tt,tt,tt,tt,tt,tt,tt,tt,tt,ff,ff,ff] rfl rfl (by kernel_rfl) (fun _ _ _ h => h) (Or.inr ⟨by rfl, rfl⟩) ?_ ?_
        rotate_left
        · simp only [Act.put, setA, setZ, setS, i64_w, i32_w]
          rfl
        refine pure_ (i := 32) (N := some 90) (v := undef) (a' := ?_) #[tt,tt,tt,tt,tt,tt,tt,tt,tt,tt,tt,tt,tt,tt,tt,tt,tt,tt,tt,tt,tt,tt,tt,tt,tt,tt,tt,tt,tt,tt,tt,tt,tt,ff,ff] rfl rfl (by kernel_rfl) (fun _ _ _ h => h) (Or.inr ⟨by rfl, rfl⟩) ?_ ?_
        rotate_left
        · simp only [Act.put, setA, setZ, setS, i64_w, i32_w]
          rfl
        refine pure_ (i := 33) (N := some 91) (v := undef) (a' := ?_) #[tt,tt,tt,tt,tt,tt,tt,tt,tt,tt,tt,tt,tt,tt,tt,tt,tt,tt,tt,tt,tt,tt,tt,tt,tt,tt,tt,tt,tt,tt,tt,tt,tt,tt,ff] rfl rfl (by kernel_rfl) (fun _ _ _ h => h) (Or.inr ⟨by rfl, rfl⟩) ?_ ?_
        rotate_left
        · simp only [Act.put, setA, setZ, setS, i64_w, i32_w]
          rfl
        refine pure_ (i := 34) (N := some 92) (v := ?_) (a' := ?_) #[tt,tt,tt,tt,tt,tt,tt,tt,tt,tt,tt,tt,tt,tt,tt,tt,tt,tt,tt,tt,tt,tt,tt,tt,tt,tt,tt,tt,tt,tt,tt,tt,tt,tt,tt] rfl rfl (by kernel_rfl) (fun _ _ _ h => h) (Or.inl ⟨by rfl, ?_⟩) ?_ ?_
        rotate_left
        · intro w'
          go_simp
          with_reducible rfl
        rotate_left
        · simp only [Act.put, setA, setZ, setS, i64_w, i32_w]
          rfl
        refine done_ (by kernel_rfl) (OnlyN.normal ?_)
        show Exit.then _ _ _ _ _
        have hx0 : Boxed w14 w.heap.size 4 (.bool false) := (hb14'.block _ (Array.getElem?_eq_some_iff.1 H0.out).1).trans H0.out
        have e0 := hx0.cell
        have f0' := hx0.frozen
        have hk : KeepsOthers W w14 := ⟨hb14'.size, fun k o ho _ => (hb14'.block k (Array.getElem?_eq_some_iff.1 ho).1).trans ho⟩
        have HKO := Lib.hid hk
        clear hHeld hk hx0
        gi_wp2
        exact ⟨(HKO.out.trans (KeepsOthers.setCell _ _ _)).from _, rfl, HNOT.out⟩
      | false =>
        have hd2' : (p1.toList == p2.toList) = true := by simpa using hd2
        gi_wp2
        refine start_inN (n := 35) (S := RS (w10.heap.size + 1) w10.heap.size pre.length Bx ad (pre.length : Int) (sizeT m) f0 xj A4 c4 y.1.n y.1.A y.1.c) (ds := []) _ _ #[ff,ff,ff,ff,ff,ff,ff,ff,ff,ff,ff,ff,ff,ff,ff,ff,ff,ff,ff,ff,ff,ff,ff,ff,ff,ff,ff,ff,ff,ff,ff,ff,ff,ff,ff] (by kernel_rfl) rfl rfl HS0d.out (by kernel_rfl) (fun hHeld => ?_)
        refine take_ (i := 0) (N := some 58) (v := ?_) (a' := ?_) #[tt,ff,ff,ff,ff,ff,ff,ff,ff,ff,ff,ff,ff,ff,ff,ff,ff,ff,ff,ff,ff,ff,ff,ff,ff,ff,ff,ff,ff,ff,ff,ff,ff,ff,ff] rfl rfl (by kernel_rfl) (fun _ _ _ h => h) (Or.inl ⟨by rfl, ?_⟩) hHeld ?_ ?_
        rotate_left
        · rintro w' ⟨s0, s1, s2, s3, s4, s5, s6, s7, s8, s9, s10⟩
          go_simp
          with_reducible rfl
        rotate_left
        · simp only [Act.put, setA, setZ, setS, i64_w, i32_w]
          rfl
        refine take_ (i := 1) (N := some 59) (v := ?_) (a' := ?_) #[tt,tt,ff,ff,ff,ff,ff,ff,ff,ff,ff,ff,ff,ff,ff,ff,ff,ff,ff,ff,ff,ff,ff,ff,ff,ff,ff,ff,ff,ff,ff,ff,ff,ff,ff] rfl rfl (by kernel_rfl) (fun _ _ _ h => h) (Or.inl ⟨by rfl, ?_⟩) hHeld ?_ ?_
        rotate_left
        · rintro w' ⟨s0, s1, s2, s3, s4, s5, s6, s7, s8, s9, s10⟩
          go_simp
          with_reducible rfl
        rotate_left
        · simp only [Act.put, setA, setZ, setS, i64_w, i32_w]
          rfl
        refine pure_ (i := 2) (N := some 60) (v := ?_) (a' := ?_) #[tt,tt,tt,ff,ff,ff,ff,ff,ff,ff,ff,ff,ff,ff,ff,ff,ff,ff,ff,ff,ff,ff,ff,ff,ff,ff,ff,ff,ff,ff,ff,ff,ff,ff,ff] rfl rfl (by kernel_rfl) (fun _ _ _ h => h) (Or.inl ⟨by rfl, ?_⟩) ?_ ?_
        rotate_left
        · intro w'
          go_simp
          with_reducible rfl
        rotate_left
        · simp only [Act.put, setA, setZ, setS, i64_w, i32_w]
          rfl
        refine pure_ (i := 3) (N := some 61) (v := ?_) (a' := ?_) #[tt,tt,tt,tt,ff,ff,ff,ff,ff,ff,ff,ff,ff,ff,ff,ff,ff,ff,ff,ff,ff,ff,ff,ff,ff,ff,ff,ff,ff,ff,ff,ff,ff,ff,ff] rfl rfl (by kernel_rfl) (fun _ _ _ h => h) (Or.inl ⟨by rfl, ?_⟩) ?_ ?_
        rotate_left
        · intro w'
          go_simp
          with_reducible rfl
        rotate_left
        · simp only [Act.put, setA, setZ, setS, i64_w, i32_w]
          rfl
        refine pure_ (i := 4) (N := some 62) (v := ?_) (a' := ?_) #[tt,tt,tt,tt,tt,ff,ff,ff,ff,ff,ff,ff,ff,ff,ff,ff,ff,ff,ff,ff,ff,ff,ff,ff,ff,ff,ff,ff,ff,ff,ff,ff,ff,ff,ff] rfl rfl (by kernel_rfl) (fun _ _ _ h => h) (Or.inl ⟨by rfl, ?_⟩) ?_ ?_
        rotate_left
        · intro w'
          go_simp
          with_reducible rfl
        rotate_left
        · simp only [Act.put, setA, setZ, setS, i64_w, i32_w]
          rfl
        refine take_ (i := 5) (N := some 63) (v := ?_) (a' := ?_) #[tt,tt,tt,tt,tt,tt,ff,ff,ff,ff,ff,ff,ff,ff,ff,ff,ff,ff,ff,ff,ff,ff,ff,ff,ff,ff,ff,ff,ff,ff,ff,ff,ff,ff,ff] rfl rfl (by kernel_rfl) (fun _ _ _ h => h) (Or.inl ⟨by rfl, ?_⟩) hHeld ?_ ?_
        rotate_left
        · rintro w' ⟨s0, s1, s2, s3, s4, s5, s6, s7, s8, s9, s10⟩
          go_simp
          with_reducible rfl
        rotate_left
        · simp only [Act.put, setA, setZ, setS, i64_w, i32_w]
          rfl
        refine take_ (i := 6) (N := some 64) (v := ?_) (a' := ?_) #[tt,tt,tt,tt,tt,tt,tt,ff,ff,ff,ff,ff,ff,ff,ff,ff,ff,ff,ff,ff,ff,ff,ff,ff,ff,ff,ff,ff,ff,ff,ff,ff,ff,ff,ff] rfl rfl (by kernel_rfl) (fun _ _ _ h => h) (Or.inl ⟨by rfl, ?_⟩) hHeld ?_ ?_
        rotate_left
        · rintro w' ⟨s0, s1, s2, s3, s4, s5, s6, s7, s8, s9, s10⟩
          go_simp
          with_reducible rfl
        rotate_left
        · simp only [Act.put, setA, setZ, setS, i64_w, i32_w]
          rfl
        refine pure_ (i := 7) (N := some 65) (v := ?_) (a' := ?_) #[tt,tt,tt,tt,tt,tt,tt,tt,ff,ff,ff,ff,ff,ff,ff,ff,ff,ff,ff,ff,ff,ff,ff,ff,ff,ff,ff,ff,ff,ff,ff,ff,ff,ff,ff] rfl rfl (by kernel_rfl) (fun _ _ _ h => h) (Or.inl ⟨by rfl, ?_⟩) ?_ ?_
        rotate_left
        · intro w'
          go_simp
          with_reducible rfl
        rotate_left
        · simp only [Act.put, setA, setZ, setS, i64_w, i32_w]
          rfl
        refine pure_ (i := 8) (N := some 66) (v := ?_) (a' := ?_) #[tt,tt,tt,tt,tt,tt,tt,tt,tt,ff,ff,ff,ff,ff,ff,ff,ff,ff,ff,ff,ff,ff,ff,ff,ff,ff,ff,ff,ff,ff,ff,ff,ff,ff,ff] rfl rfl (by kernel_rfl) (fun _ _ _ h => h) (Or.inl ⟨by rfl, ?_⟩) ?_ ?_
        rotate_left
        · intro w'
          go_simp
          with_reducible rfl
        rotate_left
        · simp only [Act.put, setA, setZ, setS, i64_w, i32_w]
          rfl
        refine take_ (i := 9) (N := some 67) (v := ?_) (a' := ?_) #[tt,tt,tt,tt,tt,tt,tt,tt,tt,tt,ff,ff,ff,ff,ff,ff,ff,ff,ff,ff,ff,ff,ff,ff,ff,ff,ff,ff,ff,ff,ff,ff,ff,ff,ff] rfl rfl (by kernel_rfl) (fun _ _ _ h => h) (Or.inl ⟨by rfl, ?_⟩) hHeld ?_ ?_
        rotate_left
        · rintro w' ⟨s0, s1, s2, s3, s4, s5, s6, s7, s8, s9, s10⟩
          go_simp
          with_reducible rfl
        rotate_left
        · simp only [Act.put, setA, setZ, setS, i64_w, i32_w]
          rfl
        refine pure_ (i := 10) (N := some 68) (v := ?_) (a' := ?_) #[tt,tt,tt,tt,tt,tt,tt,tt,tt,tt,tt,ff,ff,ff,ff,ff,ff,ff,ff,ff,ff,ff,ff,ff,ff,ff,ff,ff,ff,ff,ff,ff,ff,ff,ff] rfl rfl (by kernel_rfl) (fun _ _ _ h => h) (Or.inl ⟨by rfl, ?_⟩) ?_ ?_
        rotate_left
        · intro w'
          go_simp
          with_reducible rfl
        rotate_left
        · simp only [Act.put, setA, setZ, setS, i64_w, i32_w]
          rfl
        refine pure_ (i := 11) (N := some 69) (v := ?_) (a' := ?_) #[tt,tt,tt,tt,tt,tt,tt,tt,tt,tt,tt,tt,ff,ff,ff,ff,ff,ff,ff,ff,ff,ff,ff,ff,ff,ff,ff,ff,ff,ff,ff,ff,ff,ff,ff] rfl rfl (by kernel_rfl) (fun _ _ _ h => h) (Or.inl ⟨by rfl, ?_⟩) ?_ ?_
        rotate_left
        · intro w'
          go_simp
          with_reducible rfl
        rotate_left
        · simp only [Act.put, setA, setZ, setS, i64_w, i32_w]
          rfl
        refine pure_ (i := 12) (N := some 70) (v := ?_) (a' := ?_) #[tt,tt,tt,tt,tt,tt,tt,tt,tt,tt,tt,tt,tt,ff,ff,ff,ff,ff,ff,ff,ff,ff,ff,ff,ff,ff,ff,ff,ff,ff,ff,ff,ff,ff,ff] rfl rfl (by kernel_rfl) (fun _ _ _ h => h) (Or.inl ⟨by rfl, ?_⟩) ?_ ?_
        rotate_left
        · intro w'
          go_simp
          with_reducible rfl
        rotate_left
        · simp only [Act.put, setA, setZ, setS, i64_w, i32_w]
          rfl
        refine pure_ (i := 13) (N := some 71) (v := ?_) (a' := ?_) #[tt,tt,tt,tt,tt,tt,tt,tt,tt,tt,tt,tt,tt,tt,ff,ff,ff,ff,ff,ff,ff,ff,ff,ff,ff,ff,ff,ff,ff,ff,ff,ff,ff,ff,ff] rfl rfl (by kernel_rfl) (fun _ _ _ h => h) (Or.inl ⟨by rfl, ?_⟩) ?_ ?_
        rotate_left
        · intro w'
          go_simp
          with_reducible rfl
        rotate_left
        · simp only [Act.put, setA, setZ, setS, i64_w, i32_w]
          rfl
        refine take_ (i := 14) (N := some 72) (v := ?_) (a' := ?_) #[tt,tt,tt,tt,tt,tt,tt,tt,tt,tt,tt,tt,tt,tt,tt,ff,ff,ff,ff,ff,ff,ff,ff,ff,ff,ff,ff,ff,ff,ff,ff,ff,ff,ff,ff] rfl rfl (by kernel_rfl) (fun _ _ _ h => h) (Or.inl ⟨by rfl, ?_⟩) hHeld ?_ ?_
        rotate_left
        · rintro w' ⟨s0, s1, s2, s3, s4, s5, s6, s7, s8, s9, s10⟩
          go_simp
          with_reducible rfl
        rotate_left
        · simp only [Act.put, setA, setZ, setS, i64_w, i32_w]
          rfl
        refine take_ (i := 16) (N := some 74) (v := ?_) (a' := ?_) #[tt,tt,tt,tt,tt,tt,tt,tt,tt,tt,tt,tt,tt,tt,tt,ff,tt,ff,ff,ff,ff,ff,ff,ff,ff,ff,ff,ff,ff,ff,ff,ff,ff,ff,ff] rfl rfl (by kernel_rfl) (fun _ _ _ h => h) (Or.inl ⟨by rfl, ?_⟩) hHeld ?_ ?_
        rotate_left
        · rintro w' ⟨s0, s1, s2, s3, s4, s5, s6, s7, s8, s9, s10⟩
          go_simp
          with_reducible rfl
        rotate_left
        · simp only [Act.put, setA, setZ, setS, i64_w, i32_w]
          rfl
        refine take_ (i := 17) (N := some 75) (v := ?_) (a' := ?_) #[tt,tt,tt,tt,tt,tt,tt,tt,tt,tt,tt,tt,tt,tt,tt,ff,tt,tt,ff,ff,ff,ff,ff,ff,ff,ff,ff,ff,ff,ff,ff,ff,ff,ff,ff] rfl rfl (by kernel_rfl) (fun _ _ _ h => h) (Or.inl ⟨by rfl, ?_⟩) hHeld ?_ ?_
        rotate_left
        · rintro w' ⟨s0, s1, s2, s3, s4, s5, s6, s7, s8, s9, s10⟩
          go_simp
          with_reducible rfl
        rotate_left
        · simp only [Act.put, setA, setZ, setS, i64_w, i32_w]
          rfl
        refine pure_ (i := 18) (N := some 76) (v := ?_) (a' := ?_) #[tt,tt,tt,tt,tt,tt,tt,tt,tt,tt,tt,tt,tt,tt,tt,ff,tt,tt,tt,ff,ff,ff,ff,ff,ff,ff,ff,ff,ff,ff,ff,ff,ff,ff,ff] rfl rfl (by kernel_rfl) (fun _ _ _ h => h) (Or.inl ⟨by rfl, ?_⟩) ?_ ?_
        rotate_left
        · intro w'
          go_simp
          with_reducible rfl
        rotate_left
        · simp only [Act.put, setA, setZ, setS, i64_w, i32_w]
          rfl
        refine pure_ (i := 19) (N := some 77) (v := ?_) (a' := ?_) #[tt,tt,tt,tt,tt,tt,tt,tt,tt,tt,tt,tt,tt,tt,tt,ff,tt,tt,tt,tt,ff,ff,ff,ff,ff,ff,ff,ff,ff,ff,ff,ff,ff,ff,ff] rfl rfl (by kernel_rfl) (fun _ _ _ h => h) (Or.inl ⟨by rfl, ?_⟩) ?_ ?_
        rotate_left
        · intro w'
          go_simp
          with_reducible rfl
        rotate_left
        · simp only [Act.put, setA, setZ, setS, i64_w, i32_w]
          rfl
        refine take_ (i := 20) (N := some 78) (v := ?_) (a' := ?_) #[tt,tt,tt,tt,tt,tt,tt,tt,tt,tt,tt,tt,tt,tt,tt,ff,tt,tt,tt,tt,tt,ff,ff,ff,ff,ff,ff,ff,ff,ff,ff,ff,ff,ff,ff] rfl rfl (by kernel_rfl) (fun _ _ _ h => h) (Or.inl ⟨by rfl, ?_⟩) hHeld ?_ ?_
        rotate_left
        · rintro w' ⟨s0, s1, s2, s3, s4, s5, s6, s7, s8, s9, s10⟩
          go_simp
          with_reducible rfl
        rotate_left
        · simp only [Act.put, setA, setZ, setS, i64_w, i32_w]
          rfl
        refine one_ (i := 15) (N := some 73) #[tt,tt,tt,tt,tt,tt,tt,tt,tt,tt,tt,tt,tt,tt,tt,tt,tt,tt,tt,tt,tt,ff,ff,ff,ff,ff,ff,ff,ff,ff,ff,ff,ff,ff,ff] rfl rfl (by kernel_rfl) (by decide) (fun K hK => ?_)
        refine goes_ Tryd.func14 (by kernel_rfl) rfl #[.agg #[.string y.1.n.f0, .string y.1.n.f1, .int .i64 y.1.n.f2, .slice y.1.A y.1.n.f3.length y.1.c]] (by rfl) rfl rfl (by (try simp only [List.map_toArray, List.map_cons, List.map_nil]); first | done | rfl) ?_
        with_reducible refine (HP1.out _ hWd).mono ?_
        rintro e w13 ⟨rfl, hb13⟩
        have hb13' := hWd.trans (hb13.mono hWd.size)
        have hS13 := RS.below HS0.out hb13'
        refine ⟨_, rfl, ?_⟩
        refine hK.out _ _ hS13 (fun hHeld => ?_)
        clear hS13 hb13
        clear hK K
        refine norm_ (a' := ?_) ?_ ?_
        rotate_left
        · show Act.put _ (some 73) _ = _
          simp only [Act.put, setA, setZ, setS, i64_w, i32_w]
          rfl
        refine one_ (i := 21) (N := some 79) #[tt,tt,tt,tt,tt,tt,tt,tt,tt,tt,tt,tt,tt,tt,tt,tt,tt,tt,tt,tt,tt,tt,ff,ff,ff,ff,ff,ff,ff,ff,ff,ff,ff,ff,ff] rfl rfl (by kernel_rfl) (by decide) (fun K hK => ?_)
        refine goes_ Tryd.func17 (by kernel_rfl) rfl #[.agg #[.string xj.2.f0, .string xj.2.f1, .int .i64 xj.2.f2, .slice A4 (tlL xj.2.f3).length c4]] (by rfl) rfl rfl (by (try simp only [List.map_toArray, List.map_cons, List.map_nil]); first | done | rfl) ?_
        with_reducible refine (HP2.out _ hb13').mono ?_
        rintro e w14 ⟨rfl, hb14⟩
        have hb14' := hb13'.trans (hb14.mono hb13'.size)
        have hS14 := RS.below HS0.out hb14'
        refine ⟨_, rfl, ?_⟩
        refine hK.out _ _ hS14 (fun hHeld => ?_)
        clear hS14 hb14
        clear hK K
        refine norm_ (a' := ?_) ?_ ?_
        rotate_left
        · show Act.put _ (some 79) _ = _
          simp only [Act.put, setA, setZ, setS, i64_w, i32_w]
          rfl
        refine pure_ (i := 22) (N := some 80) (v := ?_) (a' := ?_) #[tt,tt,tt,tt,tt,tt,tt,tt,tt,tt,tt,tt,tt,tt,tt,tt,tt,tt,tt,tt,tt,tt,tt,ff,ff,ff,ff,ff,ff,ff,ff,ff,ff,ff,ff] rfl rfl (by kernel_rfl) (fun _ _ _ h => h) (Or.inl ⟨by rfl, ?_⟩) ?_ ?_
        rotate_left
        · intro w'
          go_simp
          with_reducible rfl
        rotate_left
        · simp only [Act.put, setA, setZ, setS, i64_w, i32_w]
          rfl
        refine pure_ (i := 23) (N := some 81) (v := ?_) (a' := ?_) #[tt,tt,tt,tt,tt,tt,tt,tt,tt,tt,tt,tt,tt,tt,tt,tt,tt,tt,tt,tt,tt,tt,tt,tt,ff,ff,ff,ff,ff,ff,ff,ff,ff,ff,ff] rfl rfl (by kernel_rfl) (fun _ _ _ h => h) (Or.inl ⟨by rfl, ?_⟩) ?_ ?_
        rotate_left
        · intro w'
          go_simp
          with_reducible rfl
        rotate_left
        · simp only [Act.put, setA, setZ, setS, i64_w, i32_w]
          rfl
        refine pure_ (i := 24) (N := some 82) (v := ?_) (a' := ?_) #[tt,tt,tt,tt,tt,tt,tt,tt,tt,tt,tt,tt,tt,tt,tt,tt,tt,tt,tt,tt,tt,tt,tt,tt,tt,ff,ff,ff,ff,ff,ff,ff,ff,ff,ff] rfl rfl (by kernel_rfl) (fun _ _ _ h => h) (Or.inl ⟨by rfl, ?_⟩) ?_ ?_
        rotate_left
        · intro w'
          go_simp
          with_reducible rfl
        rotate_left
        · simp only [Act.put, setA, setZ, setS, i64_w, i32_w]
          rfl
        refine pure_ (i := 25) (N := some 83) (v := ?_) (a' := ?_) #[tt,tt,tt,tt,tt,tt,tt,tt,tt,tt,tt,tt,tt,tt,tt,tt,tt,tt,tt,tt,tt,tt,tt,tt,tt,tt,ff,ff,ff,ff,ff,ff,ff,ff,ff] rfl rfl (by kernel_rfl) (fun _ _ _ h => h) (Or.inl ⟨by rfl, ?_⟩) ?_ ?_
        rotate_left
        · intro w'
          go_simp
          with_reducible rfl
        rotate_left
        · simp only [Act.put, setA, setZ, setS, i64_w, i32_w]
          rfl
        refine take_ (i := 26) (N := some 84) (v := ?_) (a' := ?_) #[tt,tt,tt,tt,tt,tt,tt,tt,tt,tt,tt,tt,tt,tt,tt,tt,tt,tt,tt,tt,tt,tt,tt,tt,tt,tt,tt,ff,ff,ff,ff,ff,ff,ff,ff] rfl rfl (by kernel_rfl) (fun _ _ _ h => h) (Or.inl ⟨by rfl, ?_⟩) hHeld ?_ ?_
        rotate_left
        · rintro w' ⟨s0, s1, s2, s3, s4, s5, s6, s7, s8, s9, s10⟩
          go_simp
          with_reducible rfl
        rotate_left
        · simp only [Act.put, setA, setZ, setS, i64_w, i32_w]
          rfl
        refine take_ (i := 27) (N := some 85) (v := ?_) (a' := ?_) #[tt,tt,tt,tt,tt,tt,tt,tt,tt,tt,tt,tt,tt,tt,tt,tt,tt,tt,tt,tt,tt,tt,tt,tt,tt,tt,tt,tt,ff,ff,ff,ff,ff,ff,ff] rfl rfl (by kernel_rfl) (fun _ _ _ h => h) (Or.inl ⟨by rfl, ?_⟩) hHeld ?_ ?_
        rotate_left
        · rintro w' ⟨s0, s1, s2, s3, s4, s5, s6, s7, s8, s9, s10⟩
          go_simp
          with_reducible rfl
        rotate_left
        · simp only [Act.put, setA, setZ, setS, i64_w, i32_w]
          rfl
        refine take_ (i := 28) (N := some 86) (v := ?_) (a' := ?_) #[tt,tt,tt,tt,tt,tt,tt,tt,tt,tt,tt,tt,tt,tt,tt,tt,tt,tt,tt,tt,tt,tt,tt,tt,tt,tt,tt,tt,tt,ff,ff,ff,ff,ff,ff] rfl rfl (by kernel_rfl) (fun _ _ _ h => h) (Or.inl ⟨by rfl, ?_⟩) hHeld ?_ ?_
        rotate_left
        · rintro w' ⟨s0, s1, s2, s3, s4, s5, s6, s7, s8, s9, s10⟩
          go_simp
          with_reducible rfl
        rotate_left
        · simp only [Act.put, setA, setZ, setS, i64_w, i32_w]
          rfl
        refine pure_ (i := 29) (N := some 87) (v := ?_) (a' := ?_) #[tt,tt,tt,tt,tt,tt,tt,tt,tt,tt,tt,tt,tt,tt,tt,tt,tt,tt,tt,tt,tt,tt,tt,tt,tt,tt,tt,tt,tt,tt,ff,ff,ff,ff,ff] rfl rfl (by kernel_rfl) (fun _ _ _ h => h) (Or.inl ⟨by rfl, ?_⟩) ?_ ?_
        rotate_left
        · intro w'
          go_simp
          with_reducible rfl
        rotate_left
        · simp only [Act.put, setA, setZ, setS, i64_w, i32_w]
          rfl
        refine pure_ (i := 30) (N := some 88) (v := ?_) (a' := ?_) #[tt,tt,tt,tt,tt,tt,tt,tt,tt,tt,tt,tt,tt,tt,tt,tt,tt,tt,tt,tt,tt,tt,tt,tt,tt,tt,tt,tt,tt,tt,tt,ff,ff,ff,ff] rfl rfl (by kernel_rfl) (fun _ _ _ h => h) (Or.inl ⟨by rfl, ?_⟩) ?_ ?_
        rotate_left
        · intro w'
          go_simp
          with_reducible rfl
        rotate_left
        · simp only [Act.put, setA, setZ, setS, i64_w, i32_w]
          rfl
        refine pure_ (i := 31) (N := some 89) (v := ?_) (a' := ?_) #[tt,tt,tt,tt,tt,tt,tt,tt,tt,tt,tt,tt,tt,tt,tt,tt,tt,tt,tt,tt,tt,tt,tt,tt,tt,tt,tt,tt,tt,tt,tt,tt,ff,ff,ff] rfl rfl (by kernel_rfl) (fun _ _ _ h => h) (Or.inl ⟨by rfl, ?_⟩) ?_ ?_
        rotate_left
        · intro w'
          go_simp
          with_reducible rfl
        rotate_left
        · simp only [Act.put, setA, setZ, setS, i64_w, i32_w]
          rfl
        refine take_ (i := 32) (N := some 90) (v := ?_) (a' := ?_) #[tt,tt,tt,tt,tt,tt,tt,tt,tt,tt,tt,tt,tt,tt,tt,tt,tt,tt,tt,tt,tt,tt,tt,tt,tt,tt,tt,tt,tt,tt,tt,tt,tt,ff,ff] rfl rfl (by kernel_rfl) (fun _ _ _ h => h) (Or.inl ⟨by rfl, ?_⟩) hHeld ?_ ?_
        rotate_left
        · rintro w' ⟨s0, s1, s2, s3, s4, s5, s6, s7, s8, s9, s10⟩
          go_simp
          with_reducible rfl
        rotate_left
        · simp only [Act.put, setA, setZ, setS, i64_w, i32_w]
          rfl
        refine pure_ (i := 33) (N := some 91) (v := ?_) (a' := ?_) #[tt,tt,tt,tt,tt,tt,tt,tt,tt,tt,tt,tt,tt,tt,tt,tt,tt,tt,tt,tt,tt,tt,tt,tt,tt,tt,tt,tt,tt,tt,tt,tt,tt,tt,ff] rfl rfl (by kernel_rfl) (fun _ _ _ h => h) (Or.inl ⟨by rfl, ?_⟩) ?_ ?_
        rotate_left
        · intro w'
          go_simp
          with_reducible rfl
        rotate_left
        · simp only [Act.put, setA, setZ, setS, i64_w, i32_w]
          rfl
        refine pure_ (i := 34) (N := some 92) (v := ?_) (a' := ?_) #[tt,tt,tt,tt,tt,tt,tt,tt,tt,tt,tt,tt,tt,tt,tt,tt,tt,tt,tt,tt,tt,tt,tt,tt,tt,tt,tt,tt,tt,tt,tt,tt,tt,tt,tt] rfl rfl (by kernel_rfl) (fun _ _ _ h => h) (Or.inl ⟨by rfl, ?_⟩) ?_ ?_
        rotate_left
        · intro w'
          go_simp
          with_reducible rfl
        rotate_left
        · simp only [Act.put, setA, setZ, setS, i64_w, i32_w]
          rfl
        refine done_ (by kernel_rfl) (OnlyN.normal ?_)
        cases hd3 : (y.1.n.f2 != xj.2.f2) with
        | true =>
          have hne : xj ≠ (y.1.d, y.1.n) := fun e => by rw [e] at hd3; simp at hd3
          have HNOT := Lib.hid (HNT.out hne)
          clear hne
          show Exit.then _ _ _ _ _
          have hx0 : Boxed w14 w.heap.size 4 (.bool false) := (hb14'.block _ (Array.getElem?_eq_some_iff.1 H0.out).1).trans H0.out
          have e0 := hx0.cell
          have f0' := hx0.frozen
          have hk : KeepsOthers W w14 := ⟨hb14'.size, fun k o ho _ => (hb14'.block k (Array.getElem?_eq_some_iff.1 ho).1).trans ho⟩
          have HKO := Lib.hid hk
          clear hHeld hk hx0
          gi_wp2
          exact ⟨(HKO.out.trans (KeepsOthers.setCell _ _ _)).from _, rfl, HNOT.out⟩
        | false =>
          have hx1 := (hb14'.block _ (Array.getElem?_eq_some_iff.1 H1.out).1).trans H1.out
          have hx2 : Boxed w14 (w10.heap.size + 1) 3 (.int .i64 (pre.length : Int)) := (hb14'.block _ (Array.getElem?_eq_some_iff.1 H2.out).1).trans H2.out
          have hx3 : Boxed w14 (w10.heap.size + 2) 3 (.int .i64 (dmax (toldE pre))) := (hb14'.block _ (Array.getElem?_eq_some_iff.1 H3.out).1).trans H3.out
          have hx0 : Boxed w14 w.heap.size 4 (.bool false) := (hb14'.block _ (Array.getElem?_eq_some_iff.1 H0.out).1).trans H0.out
          have e2 := hx2.cell
          have e3 := hx3.cell
          have f2' := hx2.frozen
          have f3' := hx3.frozen
          have hk : KeepsOthers W w14 := ⟨hb14'.size, fun k o ho _ => (hb14'.block k (Array.getElem?_eq_some_iff.1 ho).1).trans ho⟩
          have HKO := Lib.hid hk
          have HX0 := Lib.hid hx0
          have HX1 := Lib.hid hx1
          have HX2 := Lib.hid hx2
          have HX3 := Lib.hid hx3
          have HB14 := Lib.hid hb14'
          clear hHeld hk hx0 hx1 hx2 hx3 hb14'
          gi_wp2
          have hmx : dmax (toldE (pre ++ [y])) = max (dmax (toldE pre)) y.1.d := by
            rw [toldE_app]
            show dmax (toldE pre ++ [(y.1.d, y.1.n)]) = _
            rw [dmax_snoc]
            unfold mx
            split <;> omega
          have hpl : ((pre ++ [y]).length : Int) = (pre.length : Int) + 1 := by simp
          refine ⟨((HKO.out.trans (KeepsOthers.setCell _ _ _)).trans (KeepsOthers.setCell _ _ _)).from _, ((KpM.of_below (by have := HBB.out.size; omega) HB14.out).trans (KpM.set (p := ⟨w10.heap.size + 2, 0, none⟩) (by simp) (.inr (.inr rfl)) _)).trans (KpM.set (p := ⟨w10.heap.size + 1, 0, none⟩) (by simp) (.inr (.inl rfl)) _), ⟨⟨⟨⟨?_, ?_⟩, ?_⟩, ?_⟩, ?_⟩⟩
          · exact (Below.heap_setCell _ _ _ _ (by simp)).trans ((Below.heap_setCell _ _ _ _ (by simp)).trans HX1.out)
          · rw [hpl]
            exact Boxed.set (v := .int .i64 (pre.length : Int)) _ ((Below.heap_setCell _ _ _ _ (by simp)).trans HX2.out)
          · rw [hmx]
            exact (Below.heap_setCell _ _ _ _ (by simp)).trans (Boxed.set (v := .int .i64 (dmax (toldE pre))) _ HX3.out)
          · exact (Below.heap_setCell _ _ _ _ (by show w.heap.size ≠ w10.heap.size + 1; omega)).trans ((Below.heap_setCell _ _ _ _ (by show w.heap.size ≠ w10.heap.size + 2; omega)).trans HX0.out)
          · exact ((HBB.out.trans (HB14.out.mono HBB.out.size)).setCell (p := ⟨w10.heap.size + 2, 0, none⟩) (by simp) _).setCell (p := ⟨w10.heap.size + 1, 0, none⟩) (by simp) _
  case done =>
    rintro D ys W hD hys ⟨⟨⟨⟨hb1, hb2⟩, hb3⟩, hb0⟩, hB⟩ hK
    have hyl : (ys.length : Int) = (sizeT m : Int) := by rw [sizeT_told hys]
    have hdm : dmax (toldE ys) + 1 = dpT m := by
      have h1 := dmax_all m
      have h2 : deepL (allT 0 m) = max 0 (0 + dpT m) := deep_T m 0 0
      have h3 := dpT_range m
      rw [hys]; omega
    have h3 := dpT_range m
    have h3' : ((allT 0 m).length : Int) = (sizeT m : Int) := rfl
    obtain ⟨dm, hdm'⟩ : ∃ dm, dmax (toldE ys) = dm := ⟨_, rfl⟩
    rw [hyl] at hb2
    rw [hdm'] at hb3 hdm
    have hwr : wrap64 (dm + 1) = dpT m := by rw [hdm]; exact w64 (by omega) (by omega)
    have hwd : (dpT m != IntKind.i64.wrap (dpT m)) = false := by rw [show IntKind.i64.wrap (dpT m) = dpT m from (i64_w _).trans (w64 (by omega) (by omega))]; simp
    have hbB := hb10.trans (hB.mono hs10)
    have hmW := (hbB.block _ hm9l).trans HM9.out
    have hSW : W.drew.cell? ⟨w10.heap.size + 1, 0, none⟩ = some (.int .i64 (sizeT m : Int)) ∧ W.drew.cell? ⟨w10.heap.size, 0, none⟩ = some (.slice F0 (sizeT m) f0) ∧ W.drew.cell? ⟨w10.heap.size + 2, 0, none⟩ = some (.int .i64 dm) ∧ W.drew.cell? ⟨w2.heap.size, 0, none⟩ = some (.string m.f0) ∧ W.drew.cell? ⟨w2.heap.size, 1, none⟩ = some (.string m.f1) ∧ W.drew.cell? ⟨w2.heap.size, 2, none⟩ = some (.int .i64 m.f2) ∧ W.drew.cell? ⟨w2.heap.size, 3, none⟩ = some (.slice A m.f3.length c) ∧ Below W.heap.size W W.drew := ⟨hb2.cell, hb1.cell, hb3.cell, (blk_cell hmW 0).trans rfl, (blk_cell hmW 1).trans rfl, (blk_cell hmW 2).trans rfl, (blk_cell hmW 3).trans rfl, ⟨rfl, rfl, rfl, Nat.le_refl _, fun _ _ => rfl⟩⟩
    have HTW := Lib.hid (TB.below HTELL8.out.hT (hb9.trans (hbB.mono hs9)))
    have HCW := Lib.hid (Kd.C_below HMC9.out hbB)
    have HSZ := Lib.hid (fun X => tellR_size (gi := w10.heap.size + 1) (gf := w10.heap.size) (gd := w10.heap.size + 2) (gm := w2.heap.size) (vi := (sizeT m : Int)) (vf := .slice F0 (sizeT m) f0) (vd := dm) HTW.out HCW.out m1 hszm X)
    have HDP := Lib.hid (fun X => tellR_depth (gi := w10.heap.size + 1) (gf := w10.heap.size) (gd := w10.heap.size + 2) (gm := w2.heap.size) (vi := (sizeT m : Int)) (vf := .slice F0 (sizeT m) f0) (vd := dm) HTW.out HCW.out m1 hszm X)
    have HK := Lib.hid hK
    have HBW := Lib.hid hB
    have HB0 := Lib.hid hb0
    have HB1 := Lib.hid hb1
    have HB0l : w.heap.size < D := by have := HRl.out; have h1 := (Array.getElem?_eq_some_iff.1 this).1; omega
    clear hK hb0 hb1 hb2 hb3 hmW
    gi_wp2
    refine wpIn_wide.2 ?_
    go_region_held3 (fun X : World => X.cell? ⟨w10.heap.size + 1, 0, none⟩ = some (.int .i64 (sizeT m : Int)) ∧ X.cell? ⟨w10.heap.size, 0, none⟩ = some (.slice F0 (sizeT m) f0) ∧ X.cell? ⟨w10.heap.size + 2, 0, none⟩ = some (.int .i64 dm) ∧ X.cell? ⟨w2.heap.size, 0, none⟩ = some (.string m.f0) ∧ X.cell? ⟨w2.heap.size, 1, none⟩ = some (.string m.f1) ∧ X.cell? ⟨w2.heap.size, 2, none⟩ = some (.int .i64 m.f2) ∧ X.cell? ⟨w2.heap.size, 3, none⟩ = some (.slice A m.f3.length c) ∧ Below W.heap.size W X) (first | exact hS11 | exact hSW) (first
      | (go_at_call 11; (with_reducible refine (HSZ.out _ (by unfold TellR; assumption)).mono ?_); rintro e w11 ⟨rfl, hS11⟩)
      | (go_at_call 12; (with_reducible refine (HDP.out _ (by unfold TellR; assumption)).mono ?_); rintro e w11 ⟨rfl, hS11⟩))
    have hb11 : Below W.heap.size W w11 := hS11.2.2.2.2.2.2.2
    have hs11 := hb11.size
    have HKK := Lib.hid ((hb11.block _ (Array.getElem?_eq_some_iff.1 HK.out).1).trans HK.out)
    have hKl := (Array.getElem?_eq_some_iff.1 HK.out).1
    have HB011 : Hid (Boxed w11 w.heap.size 4 (.bool false)) := Lib.hid ((hb11.block _ (Array.getElem?_eq_some_iff.1 HB0.out).1).trans HB0.out)
    have HB111 : Hid (Boxed w11 w10.heap.size 47 (.slice F0 (sizeT m) f0)) := Lib.hid ((hb11.block _ (Array.getElem?_eq_some_iff.1 HB1.out).1).trans HB1.out)
    have HBW11 := Lib.hid (HBW.out.trans (hb11.mono HBW.out.size))
    have hmW := (hb11.block _ (Array.getElem?_eq_some_iff.1 ((hbB.block _ hm9l).trans HM9.out)).1).trans ((hbB.block _ hm9l).trans HM9.out)
    have q0 : w11.cell? ⟨w2.heap.size, 0, none⟩ = some (.string m.f0) := (blk_cell hmW 0).trans rfl
    have q1 : w11.cell? ⟨w2.heap.size, 1, none⟩ = some (.string m.f1) := (blk_cell hmW 1).trans rfl
    have q2 : w11.cell? ⟨w2.heap.size, 2, none⟩ = some (.int .i64 m.f2) := (blk_cell hmW 2).trans rfl
    have q3 : w11.cell? ⟨w2.heap.size, 3, none⟩ = some (.slice A m.f3.length c) := (blk_cell hmW 3).trans rfl
    clear hmW hS11 hSW HSZ HDP HB0 HB1 HK
    gi_wp2_with (first | fail)
    refine ⟨trivial, ?_⟩
    obtain ⟨ns, hns⟩ : ∃ ns, (⟨#[110, 111, 110, 101, 32, 115, 117, 99, 104]⟩ : ByteArray) = ns := ⟨_, rfl⟩
    rw [hns]
    refine (callsIn_wide.2 (First_calls op ns m A c w11.heap.size _ (by omega) (Kd.C_below HCW.out (hb11.trans (((Below.refl w11.heap.size w11).alloc (Nat.le_refl _) _).mono hs11))) m1 (heap_alloc_new w11 _))).mono ?_
    rintro e w12 ⟨hF1, hb12⟩
    rcases hF1 with ⟨pre1, suf1, dk, kk, Ak, ck, hall, hno1, hhit, lk, hCk, rfl⟩ | ⟨hno1, rfl⟩
    · dsimp only
      have hb111 := (hb12.block _ (by simp; have := (Array.getElem?_eq_some_iff.1 HB111.out).1; omega)).trans ((Below.heap_alloc w11 (.cells #[.string op, .string ns] 9) _ (Array.getElem?_eq_some_iff.1 HB111.out).1).trans HB111.out)
      have z0 := (blk_cell ((Below.heap_alloc w12 (.cells #[.string kk.f0, .string kk.f1, .int .i64 kk.f2, .slice Ak kk.f3.length ck] 26) _ (Array.getElem?_eq_some_iff.1 hb111).1).trans hb111) 0).trans rfl
      gi_wp2
      obtain ⟨V, hV⟩ : ∃ V, w12.alloc (.cells #[.string kk.f0, .string kk.f1, .int .i64 kk.f2, .slice Ak kk.f3.length ck] 26) = V := ⟨_, rfl⟩
      have hsa : (w11.alloc (.cells #[.string op, .string ns] 9)).heap.size = w11.heap.size + 1 := World.size_alloc _ _
      have hs12 := hb12.size
      rw [hsa] at hs12
      have hb11V : Below w11.heap.size w11 V := by
        rw [← hV]
        exact (((Below.refl w11.heap.size w11).alloc (Nat.le_refl _) (.cells #[.string op, .string ns] 9)).trans (hb12.mono (by omega))).alloc (by omega) _
      have hVs : V.heap.size = w12.heap.size + 1 := by rw [← hV]; exact World.size_alloc _ _
      have HBV := Lib.hid (HBW11.out.trans (hb11V.mono HBW11.out.size))
      have HDV := Lib.hid ((hb11V.block _ (Array.getElem?_eq_some_iff.1 HKK.out).1).trans HKK.out)
      have HRV : Hid (V.heap[w.heap.size]? = some (.cells #[.bool false] 4 (0, 0))) := Lib.hid ((hb11V.block _ (Array.getElem?_eq_some_iff.1 HB011.out).1).trans HB011.out)
      have HKV : Hid (V.heap[w12.heap.size]? = some (.cells #[.string kk.f0, .string kk.f1, .int .i64 kk.f2, .slice Ak kk.f3.length ck] 26 (0, 0))) := Lib.hid (by rw [← hV]; exact heap_alloc_new w12 _)
      have HCK := Lib.hid (show Kd.C k26 V Ak kk.f3.length kk.f3 from Kd.C_below hCk (by rw [← hV]; exact hb12.trans (((Below.refl w12.heap.size w12).alloc (Nat.le_refl _) _).mono hb12.size)))
      have HF := Lib.hid hF
      rw [hV]
      clear hV z0 hb111 hCk hb12 hF
      gi_loopw [124] (fun v wr => ∃ j : Nat, v = .int .i64 (j : Int) ∧ j ≤ pre1.length ∧ Hid (Below V.heap.size V wr)) (fun v _ => pre1.length + 1 - (intOf v).toNat)
      case atStart => exact ⟨0, rfl, by omega, Lib.hid (Below.refl _ _)⟩
      case round =>
        obtain ⟨j, rfl, hj, HBR⟩ := hrel
        have hpl : pre1.length < sizeT m := by unfold sizeT; rw [hall]; simp
        obtain ⟨xj, hxj⟩ : ∃ x, (allT 0 m)[j]? = some x := ⟨_, List.getElem?_eq_getElem (by unfold sizeT at hpl; omega)⟩
        have hlt : decide ((j : Int) < (sizeT m : Int)) = true := decide_eq_true (by omega)
        obtain ⟨ad, A4, c4, eA, g0, g1, g2, g3, g4, l4, gC⟩ := flatRC HF.out (HBV.out.trans (HBR.out.mono HBV.out.size)) j xj hxj
        subst eA
        by_cases hjl : j < pre1.length
        · have hx1 : xj ∈ pre1 := by
            rw [hall, List.getElem?_append_left hjl] at hxj
            exact List.mem_of_getElem? hxj
          have hh := hno1 xj hx1
          unfold hitB eqB at hh
          rw [Bool.or_eq_false_iff] at hh
          obtain ⟨hh1, hh2⟩ := hh
          have GC := Lib.hid gC
          have HX := Lib.hid hxj
          clear gC hxj hx1 hall hno1
          gi_wp2
          refine ⟨⟨j + 1, by simp, by omega, Lib.hid (HBR.out.alloc HBR.out.size _)⟩, by simp [intOf]; omega⟩
        · obtain rfl : j = pre1.length := by omega
          have hxe : xj = (dk, kk) := by
            rw [hall, List.getElem?_append_right (Nat.le_refl _), Nat.sub_self] at hxj
            exact (Option.some.inj hxj).symm
          subst hxe
          dsimp only at g0 g1 g2 g3 g4 l4 gC
          have hsk : sizeT kk ≤ 1000000000000 := by
            have := size_inT 0 m (dk, kk) (by rw [hall]; simp)
            dsimp only at this
            omega
          obtain ⟨gr, hgr⟩ : ∃ gr, wr.heap.size = gr := ⟨_, rfl⟩
          have hbr := HBR.out
          have hsr := hbr.size
          have hkr := (hbr.block _ (Array.getElem?_eq_some_iff.1 HKV.out).1).trans HKV.out
          have hrr := (hbr.block _ (Array.getElem?_eq_some_iff.1 HRV.out).1).trans HRV.out
          obtain ⟨Y, hY⟩ : ∃ Y, wr.alloc (.cells #[.int .i64 dk, .string kk.f0, .string kk.f1, .int .i64 kk.f2, .slice A4 (tlL kk.f3).length c4] 50) = Y := ⟨_, rfl⟩
          have hyb : Below wr.heap.size wr Y := by rw [← hY]; exact (Below.refl _ _).alloc (Nat.le_refl _) _
          have hyf : Y.heap[gr]? = some (.cells #[.int .i64 dk, .string kk.f0, .string kk.f1, .int .i64 kk.f2, .slice A4 (tlL kk.f3).length c4] 50 (0, 0)) := by rw [← hY, ← hgr]; exact heap_alloc_new wr _
          have hyk := (hyb.block _ (Array.getElem?_eq_some_iff.1 hkr).1).trans hkr
          have hyr := (hyb.block _ (Array.getElem?_eq_some_iff.1 hrr).1).trans hrr
          have hVY : Below V.heap.size V Y := hbr.trans (hyb.mono hsr)
          have HTOLD := Lib.hid (fun X (hb : Below Y.heap.size Y X) => told_calls kk Ak ck X hsk (Kd.C_below HCK.out (hVY.trans (hb.mono hVY.size))) lk (TB.below HTELL8.out.hT (hb9.trans ((hb10.trans ((HBV.out.trans ((hVY.trans (hb.mono hVY.size)).mono HBV.out.size)).mono hs10)).mono hs9))))
          have HSAME := Lib.hid (fun X A5 c5 (hb : Below Y.heap.size Y X) (hC5 : Kd.C kRN X A5 (tlL kk.f3).length (tlL kk.f3)) (l5 : kk.f3.length ≤ c5) => by
            have h := rsame_calls kk kk A5 c5 A4 c4 X hsk hC5 l5 (Kd.C_below gC (hyb.trans (hb.mono hyb.size))) l4 (TB.below HTELL8.out.hT (hb9.trans ((hb10.trans ((HBV.out.trans ((hVY.trans (hb.mono hVY.size)).mono HBV.out.size)).mono hs10)).mono hs9)))
            rw [sameT_refl] at h
            exact h)
          have e1 := HBV.out.size
          have e2 := Array.getElem?_eq_some_iff.1 hyk
          have e3 := Array.getElem?_eq_some_iff.1 hyr
          have hn1 : w.heap.size ≠ w12.heap.size := by omega
          have hn2 : w.heap.size ≠ gr := by omega
          have y0 : Y.cell? ⟨gr, 0, none⟩ = some (.int .i64 dk) := (blk_cell hyf 0).trans rfl
          have y1 : Y.cell? ⟨gr, 1, none⟩ = some (.string kk.f0) := (blk_cell hyf 1).trans rfl
          have y2 : Y.cell? ⟨gr, 2, none⟩ = some (.string kk.f1) := (blk_cell hyf 2).trans rfl
          have y3 : Y.cell? ⟨gr, 3, none⟩ = some (.int .i64 kk.f2) := (blk_cell hyf 3).trans rfl
          have y4 : Y.cell? ⟨gr, 4, none⟩ = some (.slice A4 (tlL kk.f3).length c4) := (blk_cell hyf 4).trans rfl
          have k0 : Y.cell? ⟨w12.heap.size, 0, none⟩ = some (.string kk.f0) := (blk_cell hyk 0).trans rfl
          have k1 : Y.cell? ⟨w12.heap.size, 1, none⟩ = some (.string kk.f1) := (blk_cell hyk 1).trans rfl
          have k2 : Y.cell? ⟨w12.heap.size, 2, none⟩ = some (.int .i64 kk.f2) := (blk_cell hyk 2).trans rfl
          have k3 : Y.cell? ⟨w12.heap.size, 3, none⟩ = some (.slice Ak kk.f3.length ck) := (blk_cell hyk 3).trans rfl
          have r0 : Y.cell? ⟨w.heap.size, 0, none⟩ = some (.bool false) := (blk_cell hyr 0).trans rfl
          have r1 : Y.frozen? ⟨w.heap.size, 0, none⟩ = false := blk_frozen hyr 0
          have HYK := Lib.hid hyk
          have HYF := Lib.hid hyf
          have HYR := Lib.hid hyr
          have HHIT := Lib.hid hhit
          clear gC hall hno1 hkr hrr hbr hyk hyf hyr e2 e3 hhit
          have HXJ := Lib.hid hxj
          clear hxj
          have hYd : Below Y.heap.size Y Y.drew := ⟨rfl, rfl, rfl, Nat.le_refl _, fun _ _ => rfl⟩
          have hSY : QS w12.heap.size gr dk kk Ak ck A4 c4 Y.drew := ⟨k0, k1, k2, k3, y0, y1, y2, y3, y4⟩
          have hwY : w.heap.size < Y.heap.size := (Array.getElem?_eq_some_iff.1 HYR.out).1
          have hr0 := r0
          have hr1 := r1
          have HDY := Lib.hid ((hVY.block _ (Array.getElem?_eq_some_iff.1 HDV.out).1).trans HDV.out)
          have HBY : Hid (Below w.heap.size w Y) := Lib.hid (HB9.out.trans ((hb10.trans ((HBV.out.trans (hVY.mono HBV.out.size)).mono hs10)).mono HB9.out.size))
          have HYD := Lib.hid hYd
          have HSZ0 : Hid (QS w12.heap.size gr dk kk Ak ck A4 c4 Y) := Lib.hid ⟨k0, k1, k2, k3, y0, y1, y2, y3, y4⟩
          have HSY := Lib.hid hSY
          have HVY := Lib.hid hVY
          clear hYd hSY hVY hr0 hr1 hyb
          cases hh1 : (kk.f0.toList == op.toList) with
          | true =>
            gi_wp2
            refine wpIn_wide.2 ?_
            have hYd := HYD.out
            have hSY := HSY.out
            have hr0 := r0
            have hr1 := r1
            clear r0 r1 k0 k1 k2 k3 y0 y1 y2 y3 y4
            refine wp_region_noPanic ?_
            refine start_ (n := 17) (S := QS w12.heap.size gr dk kk Ak ck A4 c4) (ds := [16]) #[ff,ff,ff,ff,ff,ff,ff,ff,ff,ff,ff,ff,ff,ff,ff,ff,ff] (by kernel_rfl) rfl rfl hSY (fun hHeld => ?_)
            refine pure_ (i := 0) (N := some 139) (v := ?_) (a' := ?_) #[tt,ff,ff,ff,ff,ff,ff,ff,ff,ff,ff,ff,ff,ff,ff,ff,ff] rfl rfl (by kernel_rfl) (fun _ _ _ h => h) (Or.inl ⟨by rfl, ?_⟩) ?_ ?_
            rotate_left
            · intro w'
              go_simp
              with_reducible rfl
            rotate_left
            · simp only [Act.put, setA, setZ, setS, i64_w, i32_w]
              rfl
            refine pure_ (i := 1) (N := some 140) (v := ?_) (a' := ?_) #[tt,tt,ff,ff,ff,ff,ff,ff,ff,ff,ff,ff,ff,ff,ff,ff,ff] rfl rfl (by kernel_rfl) (fun _ _ _ h => h) (Or.inl ⟨by rfl, ?_⟩) ?_ ?_
            rotate_left
            · intro w'
              go_simp
              with_reducible rfl
            rotate_left
            · simp only [Act.put, setA, setZ, setS, i64_w, i32_w]
              rfl
            refine take_ (i := 2) (N := some 141) (v := ?_) (a' := ?_) #[tt,tt,tt,ff,ff,ff,ff,ff,ff,ff,ff,ff,ff,ff,ff,ff,ff] rfl rfl (by kernel_rfl) (fun _ _ _ h => h) (Or.inl ⟨by rfl, ?_⟩) hHeld ?_ ?_
            rotate_left
            · rintro w' ⟨s0, s1, s2, s3, s4, s5, s6, s7, s8⟩
              go_simp
              with_reducible rfl
            rotate_left
            · simp only [Act.put, setA, setZ, setS, i64_w, i32_w]
              rfl
            refine pure_ (i := 4) (N := some 143) (v := ?_) (a' := ?_) #[tt,tt,tt,ff,tt,ff,ff,ff,ff,ff,ff,ff,ff,ff,ff,ff,ff] rfl rfl (by kernel_rfl) (fun _ _ _ h => h) (Or.inl ⟨by rfl, ?_⟩) ?_ ?_
            rotate_left
            · intro w'
              go_simp
              with_reducible rfl
            rotate_left
            · simp only [Act.put, setA, setZ, setS, i64_w, i32_w]
              rfl
            refine take_ (i := 5) (N := some 144) (v := ?_) (a' := ?_) #[tt,tt,tt,ff,tt,tt,ff,ff,ff,ff,ff,ff,ff,ff,ff,ff,ff] rfl rfl (by kernel_rfl) (fun _ _ _ h => h) (Or.inl ⟨by rfl, ?_⟩) hHeld ?_ ?_
            rotate_left
            · rintro w' ⟨s0, s1, s2, s3, s4, s5, s6, s7, s8⟩
              go_simp
              with_reducible rfl
            rotate_left
            · simp only [Act.put, setA, setZ, setS, i64_w, i32_w]
              rfl
            refine one_ (i := 3) (N := some 142) #[tt,tt,tt,tt,tt,tt,ff,ff,ff,ff,ff,ff,ff,ff,ff,ff,ff] rfl rfl (by kernel_rfl) (by decide) (fun K hK => ?_)
            refine goes_ Tryd.func21 (by kernel_rfl) rfl #[.agg #[.string kk.f0, .string kk.f1, .int .i64 kk.f2, .slice Ak kk.f3.length ck]] (by rfl) rfl rfl (by (try simp only [List.map_toArray, List.map_cons, List.map_nil]); first | done | rfl) ?_
            with_reducible refine (HTOLD.out _ hYd).mono ?_
            rintro e w13 ⟨A5, c5, rfl, l5, C5, hb13⟩
            have hb13' := hYd.trans (hb13.mono hYd.size)
            have hS13 := QS.below HSZ0.out hb13'
            refine ⟨_, rfl, ?_⟩
            refine hK.out _ _ hS13 (fun hHeld => ?_)
            clear hS13 hb13
            clear hK K
            refine norm_ (a' := ?_) ?_ ?_
            rotate_left
            · show Act.put _ (some 142) _ = _
              simp only [Act.put, setA, setZ, setS, i64_w, i32_w]
              rfl
            refine one_ (i := 6) (N := some 145) #[tt,tt,tt,tt,tt,tt,tt,ff,ff,ff,ff,ff,ff,ff,ff,ff,ff] rfl rfl (by kernel_rfl) (by decide) (fun K hK => ?_)
            refine goes_ Tryd.func18 (by kernel_rfl) rfl #[.agg #[.string kk.f0, .string kk.f1, .int .i64 kk.f2, .slice A5 (tlL kk.f3).length c5], .agg #[.string kk.f0, .string kk.f1, .int .i64 kk.f2, .slice A4 (tlL kk.f3).length c4]] (by rfl) rfl rfl (by (try simp only [List.map_toArray, List.map_cons, List.map_nil]); first | done | rfl) ?_
            with_reducible refine (HSAME.out _ A5 c5 hb13' C5 l5).mono ?_
            rintro e w14 ⟨rfl, hb14⟩
            have hb14' := hb13'.trans (hb14.mono hb13'.size)
            have hS14 := QS.below HSZ0.out hb14'
            refine ⟨_, rfl, ?_⟩
            refine hK.out _ _ hS14 (fun hHeld => ?_)
            clear hS14 hb14
            clear hK K
            refine norm_ (a' := ?_) ?_ ?_
            rotate_left
            · show Act.put _ (some 145) _ = _
              simp only [Act.put, setA, setZ, setS, i64_w, i32_w]
              rfl
            refine pure_ (i := 7) (N := some 146) (v := ?_) (a' := ?_) #[tt,tt,tt,tt,tt,tt,tt,tt,ff,ff,ff,ff,ff,ff,ff,ff,ff] rfl rfl (by kernel_rfl) (fun _ _ _ h => h) (Or.inl ⟨by rfl, ?_⟩) ?_ ?_
            rotate_left
            · intro w'
              go_simp
              with_reducible rfl
            rotate_left
            · simp only [Act.put, setA, setZ, setS, i64_w, i32_w]
              rfl
            refine pure_ (i := 8) (N := some 147) (v := ?_) (a' := ?_) #[tt,tt,tt,tt,tt,tt,tt,tt,tt,ff,ff,ff,ff,ff,ff,ff,ff] rfl rfl (by kernel_rfl) (fun _ _ _ h => h) (Or.inl ⟨by rfl, ?_⟩) ?_ ?_
            rotate_left
            · intro w'
              go_simp
              with_reducible rfl
            rotate_left
            · simp only [Act.put, setA, setZ, setS, i64_w, i32_w]
              rfl
            refine pure_ (i := 9) (N := some 148) (v := ?_) (a' := ?_) #[tt,tt,tt,tt,tt,tt,tt,tt,tt,tt,ff,ff,ff,ff,ff,ff,ff] rfl rfl (by kernel_rfl) (fun _ _ _ h => h) (Or.inl ⟨by rfl, ?_⟩) ?_ ?_
            rotate_left
            · intro w'
              go_simp
              with_reducible rfl
            rotate_left
            · simp only [Act.put, setA, setZ, setS, i64_w, i32_w]
              rfl
            refine take_ (i := 10) (N := some 149) (v := ?_) (a' := ?_) #[tt,tt,tt,tt,tt,tt,tt,tt,tt,tt,tt,ff,ff,ff,ff,ff,ff] rfl rfl (by kernel_rfl) (fun _ _ _ h => h) (Or.inl ⟨by rfl, ?_⟩) hHeld ?_ ?_
            rotate_left
            · rintro w' ⟨s0, s1, s2, s3, s4, s5, s6, s7, s8⟩
              go_simp
              with_reducible rfl
            rotate_left
            · simp only [Act.put, setA, setZ, setS, i64_w, i32_w]
              rfl
            refine pure_ (i := 11) (N := some 150) (v := ?_) (a' := ?_) #[tt,tt,tt,tt,tt,tt,tt,tt,tt,tt,tt,tt,ff,ff,ff,ff,ff] rfl rfl (by kernel_rfl) (fun _ _ _ h => h) (Or.inl ⟨by rfl, ?_⟩) ?_ ?_
            rotate_left
            · intro w'
              go_simp
              with_reducible rfl
            rotate_left
            · simp only [Act.put, setA, setZ, setS, i64_w, i32_w]
              rfl
            refine pure_ (i := 12) (N := some 151) (v := ?_) (a' := ?_) #[tt,tt,tt,tt,tt,tt,tt,tt,tt,tt,tt,tt,tt,ff,ff,ff,ff] rfl rfl (by kernel_rfl) (fun _ _ _ h => h) (Or.inl ⟨by rfl, ?_⟩) ?_ ?_
            rotate_left
            · intro w'
              go_simp
              with_reducible rfl
            rotate_left
            · simp only [Act.put, setA, setZ, setS, i64_w, i32_w]
              rfl
            refine take_ (i := 13) (N := some 152) (v := ?_) (a' := ?_) #[tt,tt,tt,tt,tt,tt,tt,tt,tt,tt,tt,tt,tt,tt,ff,ff,ff] rfl rfl (by kernel_rfl) (fun _ _ _ h => h) (Or.inl ⟨by rfl, ?_⟩) hHeld ?_ ?_
            rotate_left
            · rintro w' ⟨s0, s1, s2, s3, s4, s5, s6, s7, s8⟩
              go_simp
              with_reducible rfl
            rotate_left
            · simp only [Act.put, setA, setZ, setS, i64_w, i32_w]
              rfl
            refine pure_ (i := 14) (N := some 153) (v := ?_) (a' := ?_) #[tt,tt,tt,tt,tt,tt,tt,tt,tt,tt,tt,tt,tt,tt,tt,ff,ff] rfl rfl (by kernel_rfl) (fun _ _ _ h => h) (Or.inl ⟨by rfl, ?_⟩) ?_ ?_
            rotate_left
            · intro w'
              go_simp
              with_reducible rfl
            rotate_left
            · simp only [Act.put, setA, setZ, setS, i64_w, i32_w]
              rfl
            refine pure_ (i := 15) (N := some 154) (v := ?_) (a' := ?_) #[tt,tt,tt,tt,tt,tt,tt,tt,tt,tt,tt,tt,tt,tt,tt,tt,ff] rfl rfl (by kernel_rfl) (fun _ _ _ h => h) (Or.inl ⟨by rfl, ?_⟩) ?_ ?_
            rotate_left
            · intro w'
              go_simp
              with_reducible rfl
            rotate_left
            · simp only [Act.put, setA, setZ, setS, i64_w, i32_w]
              rfl
            refine last_ (i := 16) (N := none) #[tt,tt,tt,tt,tt,tt,tt,tt,tt,tt,tt,tt,tt,tt,tt,tt,tt] rfl rfl (by kernel_rfl) (by decide) (fun K hK => ?_)
            have r0 := (hb14'.cell (p := ⟨w.heap.size, 0, none⟩) hwY).trans hr0
            have r1 := frozen_below hb14' hwY hr1
            refine skip_ (w1 := ?_) (by rfl) rfl ?_ ?_
            rotate_left
            · go_simp
              rfl
            refine hK.out _ _ ?_
            clear hK K
            refine done_ (by kernel_rfl) (NoPanic.normal ?_)
            have hZk : (w14.setCell ⟨w.heap.size, 0, none⟩ (.bool true)).heap[D]? = some (.deferred (some [])) := (Below.heap_setCell _ _ _ _ (by show D ≠ w.heap.size; have := HB0l; omega)).trans ((hb14'.block _ (Array.getElem?_eq_some_iff.1 HDY.out).1).trans HDY.out)
            have hZr : Boxed (w14.setCell ⟨w.heap.size, 0, none⟩ (.bool true)) w.heap.size 4 (.bool true) := Boxed.set (v := .bool false) _ ((hb14'.block _ (Array.getElem?_eq_some_iff.1 HYR.out).1).trans HYR.out)
            have hZB : Below w.heap.size w (w14.setCell ⟨w.heap.size, 0, none⟩ (.bool true)) := (HBY.out.trans (hb14'.mono HBY.out.size)).setCell (p := ⟨w.heap.size, 0, none⟩) (by simp) _
            generalize w14.setCell ⟨w.heap.size, 0, none⟩ (.bool true) = Z at hZk hZr hZB ⊢
            have HZK := Lib.hid hZk
            have HZR := Lib.hid hZr
            have HZB := Lib.hid hZB
            clear hZk hZr hZB hHeld hb14' r0 r1 C5 hr0 hr1
            gi_wp2
            have hK5 := HZK.out
            have k4 := HZR.out.cell
            refine ⟨by simp, .inl ⟨_, _, rfl, run_takeDeferred hK5, ?_⟩⟩
            have q4 := cell_kept k4 (grownBy_putObj' _ D (.deferred none)) (fun r e => by cases e; exact ⟨_, hK5, rfl⟩)
            refine ⟨.bool true, ?_, ⟨rfl, ?_⟩⟩
            · simp [results, Tryd.f7, go_sem, q4]
            · exact HZB.out.trans (belowK_b (w := w) (Nat.le_refl _) _ D _ _ (by omega) hK5 rfl rfl)
          | false =>
            have hh2 : (kk.f0.toList == ns.toList) = true := by
              have := HHIT.out
              unfold hitB eqB at this
              rw [hh1] at this
              simpa using this
            gi_wp2
            refine wpIn_wide.2 ?_
            have hYd := HYD.out
            have hSY := HSY.out
            have hr0 := r0
            have hr1 := r1
            clear r0 r1 k0 k1 k2 k3 y0 y1 y2 y3 y4
            refine wp_region_noPanic ?_
            refine start_ (n := 17) (S := QS w12.heap.size gr dk kk Ak ck A4 c4) (ds := [16]) #[ff,ff,ff,ff,ff,ff,ff,ff,ff,ff,ff,ff,ff,ff,ff,ff,ff] (by kernel_rfl) rfl rfl hSY (fun hHeld => ?_)
            refine pure_ (i := 0) (N := some 139) (v := ?_) (a' := ?_) #[tt,ff,ff,ff,ff,ff,ff,ff,ff,ff,ff,ff,ff,ff,ff,ff,ff] rfl rfl (by kernel_rfl) (fun _ _ _ h => h) (Or.inl ⟨by rfl, ?_⟩) ?_ ?_
            rotate_left
            · intro w'
              go_simp
              with_reducible rfl
            rotate_left
            · simp only [Act.put, setA, setZ, setS, i64_w, i32_w]
              rfl
            refine pure_ (i := 1) (N := some 140) (v := ?_) (a' := ?_) #[tt,tt,ff,ff,ff,ff,ff,ff,ff,ff,ff,ff,ff,ff,ff,ff,ff] rfl rfl (by kernel_rfl) (fun _ _ _ h => h) (Or.inl ⟨by rfl, ?_⟩) ?_ ?_
            rotate_left
            · intro w'
              go_simp
              with_reducible rfl
            rotate_left
            · simp only [Act.put, setA, setZ, setS, i64_w, i32_w]
              rfl
            refine take_ (i := 2) (N := some 141) (v := ?_) (a' := ?_) #[tt,tt,tt,ff,ff,ff,ff,ff,ff,ff,ff,ff,ff,ff,ff,ff,ff] rfl rfl (by kernel_rfl) (fun _ _ _ h => h) (Or.inl ⟨by rfl, ?_⟩) hHeld ?_ ?_
            rotate_left
            · rintro w' ⟨s0, s1, s2, s3, s4, s5, s6, s7, s8⟩
              go_simp
              with_reducible rfl
            rotate_left
            · simp only [Act.put, setA, setZ, setS, i64_w, i32_w]
              rfl
            refine pure_ (i := 4) (N := some 143) (v := ?_) (a' := ?_) #[tt,tt,tt,ff,tt,ff,ff,ff,ff,ff,ff,ff,ff,ff,ff,ff,ff] rfl rfl (by kernel_rfl) (fun _ _ _ h => h) (Or.inl ⟨by rfl, ?_⟩) ?_ ?_
            rotate_left
            · intro w'
              go_simp
              with_reducible rfl
            rotate_left
            · simp only [Act.put, setA, setZ, setS, i64_w, i32_w]
              rfl
            refine take_ (i := 5) (N := some 144) (v := ?_) (a' := ?_) #[tt,tt,tt,ff,tt,tt,ff,ff,ff,ff,ff,ff,ff,ff,ff,ff,ff] rfl rfl (by kernel_rfl) (fun _ _ _ h => h) (Or.inl ⟨by rfl, ?_⟩) hHeld ?_ ?_
            rotate_left
            · rintro w' ⟨s0, s1, s2, s3, s4, s5, s6, s7, s8⟩
              go_simp
              with_reducible rfl
            rotate_left
            · simp only [Act.put, setA, setZ, setS, i64_w, i32_w]
              rfl
            refine one_ (i := 3) (N := some 142) #[tt,tt,tt,tt,tt,tt,ff,ff,ff,ff,ff,ff,ff,ff,ff,ff,ff] rfl rfl (by kernel_rfl) (by decide) (fun K hK => ?_)
            refine goes_ Tryd.func21 (by kernel_rfl) rfl #[.agg #[.string kk.f0, .string kk.f1, .int .i64 kk.f2, .slice Ak kk.f3.length ck]] (by rfl) rfl rfl (by (try simp only [List.map_toArray, List.map_cons, List.map_nil]); first | done | rfl) ?_
            with_reducible refine (HTOLD.out _ hYd).mono ?_
            rintro e w13 ⟨A5, c5, rfl, l5, C5, hb13⟩
            have hb13' := hYd.trans (hb13.mono hYd.size)
            have hS13 := QS.below HSZ0.out hb13'
            refine ⟨_, rfl, ?_⟩
            refine hK.out _ _ hS13 (fun hHeld => ?_)
            clear hS13 hb13
            clear hK K
            refine norm_ (a' := ?_) ?_ ?_
            rotate_left
            · show Act.put _ (some 142) _ = _
              simp only [Act.put, setA, setZ, setS, i64_w, i32_w]
              rfl
            refine one_ (i := 6) (N := some 145) #[tt,tt,tt,tt,tt,tt,tt,ff,ff,ff,ff,ff,ff,ff,ff,ff,ff] rfl rfl (by kernel_rfl) (by decide) (fun K hK => ?_)
            refine goes_ Tryd.func18 (by kernel_rfl) rfl #[.agg #[.string kk.f0, .string kk.f1, .int .i64 kk.f2, .slice A5 (tlL kk.f3).length c5], .agg #[.string kk.f0, .string kk.f1, .int .i64 kk.f2, .slice A4 (tlL kk.f3).length c4]] (by rfl) rfl rfl (by (try simp only [List.map_toArray, List.map_cons, List.map_nil]); first | done | rfl) ?_
            with_reducible refine (HSAME.out _ A5 c5 hb13' C5 l5).mono ?_
            rintro e w14 ⟨rfl, hb14⟩
            have hb14' := hb13'.trans (hb14.mono hb13'.size)
            have hS14 := QS.below HSZ0.out hb14'
            refine ⟨_, rfl, ?_⟩
            refine hK.out _ _ hS14 (fun hHeld => ?_)
            clear hS14 hb14
            clear hK K
            refine norm_ (a' := ?_) ?_ ?_
            rotate_left
            · show Act.put _ (some 145) _ = _
              simp only [Act.put, setA, setZ, setS, i64_w, i32_w]
              rfl
            refine pure_ (i := 7) (N := some 146) (v := ?_) (a' := ?_) #[tt,tt,tt,tt,tt,tt,tt,tt,ff,ff,ff,ff,ff,ff,ff,ff,ff] rfl rfl (by kernel_rfl) (fun _ _ _ h => h) (Or.inl ⟨by rfl, ?_⟩) ?_ ?_
            rotate_left
            · intro w'
              go_simp
              with_reducible rfl
            rotate_left
            · simp only [Act.put, setA, setZ, setS, i64_w, i32_w]
              rfl
            refine pure_ (i := 8) (N := some 147) (v := ?_) (a' := ?_) #[tt,tt,tt,tt,tt,tt,tt,tt,tt,ff,ff,ff,ff,ff,ff,ff,ff] rfl rfl (by kernel_rfl) (fun _ _ _ h => h) (Or.inl ⟨by rfl, ?_⟩) ?_ ?_
            rotate_left
            · intro w'
              go_simp
              with_reducible rfl
            rotate_left
            · simp only [Act.put, setA, setZ, setS, i64_w, i32_w]
              rfl
            refine pure_ (i := 9) (N := some 148) (v := ?_) (a' := ?_) #[tt,tt,tt,tt,tt,tt,tt,tt,tt,tt,ff,ff,ff,ff,ff,ff,ff] rfl rfl (by kernel_rfl) (fun _ _ _ h => h) (Or.inl ⟨by rfl, ?_⟩) ?_ ?_
            rotate_left
            · intro w'
              go_simp
              with_reducible rfl
            rotate_left
            · simp only [Act.put, setA, setZ, setS, i64_w, i32_w]
              rfl
            refine take_ (i := 10) (N := some 149) (v := ?_) (a' := ?_) #[tt,tt,tt,tt,tt,tt,tt,tt,tt,tt,tt,ff,ff,ff,ff,ff,ff] rfl rfl (by kernel_rfl) (fun _ _ _ h => h) (Or.inl ⟨by rfl, ?_⟩) hHeld ?_ ?_
            rotate_left
            · rintro w' ⟨s0, s1, s2, s3, s4, s5, s6, s7, s8⟩
              go_simp
              with_reducible rfl
            rotate_left
            · simp only [Act.put, setA, setZ, setS, i64_w, i32_w]
              rfl
            refine pure_ (i := 11) (N := some 150) (v := ?_) (a' := ?_) #[tt,tt,tt,tt,tt,tt,tt,tt,tt,tt,tt,tt,ff,ff,ff,ff,ff] rfl rfl (by kernel_rfl) (fun _ _ _ h => h) (Or.inl ⟨by rfl, ?_⟩) ?_ ?_
            rotate_left
            · intro w'
              go_simp
              with_reducible rfl
            rotate_left
            · simp only [Act.put, setA, setZ, setS, i64_w, i32_w]
              rfl
            refine pure_ (i := 12) (N := some 151) (v := ?_) (a' := ?_) #[tt,tt,tt,tt,tt,tt,tt,tt,tt,tt,tt,tt,tt,ff,ff,ff,ff] rfl rfl (by kernel_rfl) (fun _ _ _ h => h) (Or.inl ⟨by rfl, ?_⟩) ?_ ?_
            rotate_left
            · intro w'
              go_simp
              with_reducible rfl
            rotate_left
            · simp only [Act.put, setA, setZ, setS, i64_w, i32_w]
              rfl
            refine take_ (i := 13) (N := some 152) (v := ?_) (a' := ?_) #[tt,tt,tt,tt,tt,tt,tt,tt,tt,tt,tt,tt,tt,tt,ff,ff,ff] rfl rfl (by kernel_rfl) (fun _ _ _ h => h) (Or.inl ⟨by rfl, ?_⟩) hHeld ?_ ?_
            rotate_left
            · rintro w' ⟨s0, s1, s2, s3, s4, s5, s6, s7, s8⟩
              go_simp
              with_reducible rfl
            rotate_left
            · simp only [Act.put, setA, setZ, setS, i64_w, i32_w]
              rfl
            refine pure_ (i := 14) (N := some 153) (v := ?_) (a' := ?_) #[tt,tt,tt,tt,tt,tt,tt,tt,tt,tt,tt,tt,tt,tt,tt,ff,ff] rfl rfl (by kernel_rfl) (fun _ _ _ h => h) (Or.inl ⟨by rfl, ?_⟩) ?_ ?_
            rotate_left
            · intro w'
              go_simp
              with_reducible rfl
            rotate_left
            · simp only [Act.put, setA, setZ, setS, i64_w, i32_w]
              rfl
            refine pure_ (i := 15) (N := some 154) (v := ?_) (a' := ?_) #[tt,tt,tt,tt,tt,tt,tt,tt,tt,tt,tt,tt,tt,tt,tt,tt,ff] rfl rfl (by kernel_rfl) (fun _ _ _ h => h) (Or.inl ⟨by rfl, ?_⟩) ?_ ?_
            rotate_left
            · intro w'
              go_simp
              with_reducible rfl
            rotate_left
            · simp only [Act.put, setA, setZ, setS, i64_w, i32_w]
              rfl
            refine last_ (i := 16) (N := none) #[tt,tt,tt,tt,tt,tt,tt,tt,tt,tt,tt,tt,tt,tt,tt,tt,tt] rfl rfl (by kernel_rfl) (by decide) (fun K hK => ?_)
            have r0 := (hb14'.cell (p := ⟨w.heap.size, 0, none⟩) hwY).trans hr0
            have r1 := frozen_below hb14' hwY hr1
            refine skip_ (w1 := ?_) (by rfl) rfl ?_ ?_
            rotate_left
            · go_simp
              rfl
            refine hK.out _ _ ?_
            clear hK K
            refine done_ (by kernel_rfl) (NoPanic.normal ?_)
            have hZk : (w14.setCell ⟨w.heap.size, 0, none⟩ (.bool true)).heap[D]? = some (.deferred (some [])) := (Below.heap_setCell _ _ _ _ (by show D ≠ w.heap.size; have := HB0l; omega)).trans ((hb14'.block _ (Array.getElem?_eq_some_iff.1 HDY.out).1).trans HDY.out)
            have hZr : Boxed (w14.setCell ⟨w.heap.size, 0, none⟩ (.bool true)) w.heap.size 4 (.bool true) := Boxed.set (v := .bool false) _ ((hb14'.block _ (Array.getElem?_eq_some_iff.1 HYR.out).1).trans HYR.out)
            have hZB : Below w.heap.size w (w14.setCell ⟨w.heap.size, 0, none⟩ (.bool true)) := (HBY.out.trans (hb14'.mono HBY.out.size)).setCell (p := ⟨w.heap.size, 0, none⟩) (by simp) _
            generalize w14.setCell ⟨w.heap.size, 0, none⟩ (.bool true) = Z at hZk hZr hZB ⊢
            have HZK := Lib.hid hZk
            have HZR := Lib.hid hZr
            have HZB := Lib.hid hZB
            clear hZk hZr hZB hHeld hb14' r0 r1 C5 hr0 hr1
            gi_wp2
            have hK5 := HZK.out
            have k4 := HZR.out.cell
            refine ⟨by simp, .inl ⟨_, _, rfl, run_takeDeferred hK5, ?_⟩⟩
            have q4 := cell_kept k4 (grownBy_putObj' _ D (.deferred none)) (fun r e => by cases e; exact ⟨_, hK5, rfl⟩)
            refine ⟨.bool true, ?_, ⟨rfl, ?_⟩⟩
            · simp [results, Tryd.f7, go_sem, q4]
            · exact HZB.out.trans (belowK_b (w := w) (Nat.le_refl _) _ D _ _ (by omega) hK5 rfl rfl)
    · dsimp only
      have hb111 := (hb12.block _ (by simp; have := (Array.getElem?_eq_some_iff.1 HB111.out).1; omega)).trans ((Below.heap_alloc w11 (.cells #[.string op, .string ns] 9) _ (Array.getElem?_eq_some_iff.1 HB111.out).1).trans HB111.out)
      have z0 := (blk_cell ((Below.heap_alloc w12 (.cells zeroCells 26) _ (Array.getElem?_eq_some_iff.1 hb111).1).trans hb111) 0).trans rfl
      gi_wp2
      obtain ⟨V, hV⟩ : ∃ V, w12.alloc (.cells zeroCells 26) = V := ⟨_, rfl⟩
      have hsa : (w11.alloc (.cells #[.string op, .string ns] 9)).heap.size = w11.heap.size + 1 := World.size_alloc _ _
      have hs12 := hb12.size
      rw [hsa] at hs12
      have hb11V : Below w11.heap.size w11 V := by
        rw [← hV]
        exact (((Below.refl w11.heap.size w11).alloc (Nat.le_refl _) (.cells #[.string op, .string ns] 9)).trans (hb12.mono (by omega))).alloc (by omega) _
      have hVs : V.heap.size = w12.heap.size + 1 := by rw [← hV]; exact World.size_alloc _ _
      have HBV := Lib.hid (HBW11.out.trans (hb11V.mono HBW11.out.size))
      have HDV := Lib.hid ((hb11V.block _ (Array.getElem?_eq_some_iff.1 HKK.out).1).trans HKK.out)
      have HRV : Hid (V.heap[w.heap.size]? = some (.cells #[.bool false] 4 (0, 0))) := Lib.hid ((hb11V.block _ (Array.getElem?_eq_some_iff.1 HB011.out).1).trans HB011.out)
      have HKV : Hid (V.heap[w12.heap.size]? = some (.cells zeroCells 26 (0, 0))) := Lib.hid (by rw [← hV]; exact heap_alloc_new w12 _)
      have HF := Lib.hid hF
      have HNO := Lib.hid hno1
      rw [hV]
      clear hV z0 hb111 hb12 hF hno1
      gi_loopw [124] (fun v wr => ∃ j : Nat, v = .int .i64 (j : Int) ∧ j ≤ sizeT m ∧ Hid (Below V.heap.size V wr)) (fun v _ => sizeT m + 1 - (intOf v).toNat)
      case atStart => exact ⟨0, rfl, by omega, Lib.hid (Below.refl _ _)⟩
      case round =>
        obtain ⟨j, rfl, hj, HBR⟩ := hrel
        by_cases hjl : j < sizeT m
        · obtain ⟨xj, hxj⟩ : ∃ x, (allT 0 m)[j]? = some x := ⟨_, List.getElem?_eq_getElem (by unfold sizeT at hjl; omega)⟩
          have hlt : decide ((j : Int) < (sizeT m : Int)) = true := decide_eq_true (by omega)
          obtain ⟨ad, A4, c4, eA, g0, g1, g2, g3, g4, l4, gC⟩ := flatRC HF.out (HBV.out.trans (HBR.out.mono HBV.out.size)) j xj hxj
          subst eA
          have hh := HNO.out xj (List.mem_of_getElem? hxj)
          unfold hitB eqB at hh
          rw [Bool.or_eq_false_iff] at hh
          obtain ⟨hh1, hh2⟩ := hh
          have GC := Lib.hid gC
          have HX := Lib.hid hxj
          clear gC hxj
          gi_wp2
          refine ⟨⟨j + 1, by simp, by omega, Lib.hid (HBR.out.alloc HBR.out.size _)⟩, by simp [intOf]; omega⟩
        · obtain rfl : j = sizeT m := by omega
          have hlt : decide ((sizeT m : Int) < (sizeT m : Int)) = false := by simp
          have hbr := HBR.out
          have hkr := (hbr.block _ (Array.getElem?_eq_some_iff.1 HKV.out).1).trans HKV.out
          have hrr := (hbr.block _ (Array.getElem?_eq_some_iff.1 HRV.out).1).trans HRV.out
          have k0 : wr.cell? ⟨w12.heap.size, 0, none⟩ = some (.string (⟨#[]⟩ : ByteArray)) := (blk_cell hkr 0).trans rfl
          have k3 : wr.cell? ⟨w12.heap.size, 3, none⟩ = some (.slice none 0 0) := (blk_cell hkr 3).trans rfl
          have r0 : wr.cell? ⟨w.heap.size, 0, none⟩ = some (.bool false) := (blk_cell hrr 0).trans rfl
          have r1 : wr.frozen? ⟨w.heap.size, 0, none⟩ = false := blk_frozen hrr 0
          have HZK := Lib.hid (show (wr.setCell ⟨w.heap.size, 0, none⟩ (.bool true)).heap[D]? = some (.deferred (some [])) from (Below.heap_setCell _ _ _ _ (by show D ≠ w.heap.size; have := HB0l; omega)).trans ((hbr.block _ (Array.getElem?_eq_some_iff.1 HDV.out).1).trans HDV.out))
          have HZR := Lib.hid (show Boxed (wr.setCell ⟨w.heap.size, 0, none⟩ (.bool true)) w.heap.size 4 (.bool true) from Boxed.set (v := .bool false) _ hrr)
          have HZB := Lib.hid (show Below w.heap.size w (wr.setCell ⟨w.heap.size, 0, none⟩ (.bool true)) from ((HB9.out.trans ((hb10.trans ((HBV.out.trans (hbr.mono HBV.out.size)).mono hs10)).mono HB9.out.size)).setCell (p := ⟨w.heap.size, 0, none⟩) (by simp) _))
          clear hkr hrr hbr
          gi_wp2
          have hK5 := HZK.out
          have k4 := HZR.out.cell
          refine ⟨by simp, .inl ⟨_, _, rfl, run_takeDeferred hK5, ?_⟩⟩
          have q4 := cell_kept k4 (grownBy_putObj' _ D (.deferred none)) (fun r e => by cases e; exact ⟨_, hK5, rfl⟩)
          refine ⟨.bool true, ?_, ⟨rfl, ?_⟩⟩
          · simp [results, Tryd.f7, go_sem, q4]
          · exact HZB.out.trans (belowK_b (w := w) (Nat.le_refl _) _ D _ _ (by omega) hK5 rfl rfl)
  case stop =>
    rintro D cc pre W hD hpre ⟨_, hno⟩ hK
    exact absurd hpre hno
end Go.Proofs.YtgkojnpbgkglgaaDoor.Pr
