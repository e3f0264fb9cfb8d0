/- AstTells: what its rows say, and what its last loop needs. -/
import Derived.Test.YtgkojnpbgkglgaaDoorPuAsRS
import Derived.Test.YtgkojnpbgkglgaaDoorPuAsF
import Derived.Test.YtgkojnpbgkglgaaDoorPuAstKids
import Derived.Test.YtgkojnpbgkglgaaDoorPuInR
import Derived.Test.YtgkojnpbgkglgaaDoorPr1
set_option linter.unusedVariables false
set_option linter.unusedSimpArgs false
namespace Go.Proofs.YtgkojnpbgkglgaaDoor.Pr
open Go Go.RowKit Go.Shelf Go.Proofs.YtgkojnpbgkglgaaDoorW.PrintWords Go.Proofs.YtgkojnpbgkglgaaDoorW.PrintLast Go.Proofs.YtgkojnpbgkglgaaDoorW.PrintMore

theorem flatRC {w W : World} {F0 : Option Addr} {m : ANode} (h : Kd.C kFl w F0 (flR 0 (tlN m)).length (flR 0 (tlN m))) (hb : Below w.heap.size w W) (i : Nat) (x : Int × ANode) (hx : (allT 0 m)[i]? = some x) :
    ∃ ad A4 c4, F0 = some ad ∧ W.cell? (ad.add (i * 5)) = some (.int .i64 x.1) ∧ W.cell? ⟨(ad.add (i * 5)).block, (ad.add (i * 5)).off + 1, none⟩ = some (.string x.2.f0) ∧ W.cell? ⟨(ad.add (i * 5)).block, (ad.add (i * 5)).off + 2, none⟩ = some (.string x.2.f1) ∧
      W.cell? ⟨(ad.add (i * 5)).block, (ad.add (i * 5)).off + 3, none⟩ = some (.int .i64 x.2.f2) ∧ W.cell? ⟨(ad.add (i * 5)).block, (ad.add (i * 5)).off + 4, none⟩ = some (.slice A4 (tlL x.2.f3).length c4) ∧ x.2.f3.length ≤ c4 ∧ Kd.C kRN W A4 (tlL x.2.f3).length (tlL x.2.f3) := by
  obtain ⟨hi, hx⟩ := List.getElem?_eq_some_iff.1 hx
  have hl : (flR 0 (tlN m)).length = (allT 0 m).length := by rw [fl_told, List.length_map]
  obtain ⟨ad, A4, c4, e, f0, f1, f2, f3, f4, l4, g4⟩ := at_T50 h (i : Int) (by omega) (by omega)
  have hr : rd_T50 (flR 0 (tlN m)) (i : Int) = ⟨x.1, tlN x.2⟩ := by
    simp only [rd_T50, fl_told, Int.toNat_natCast]
    rw [List.getD_eq_getElem?_getD, List.getElem?_map, List.getElem?_eq_getElem hi, hx]
    rfl
  rw [hr, tlN_eq] at f0 f1 f2 f3 f4 l4 g4
  rw [Int.toNat_natCast] at f0 f1 f2 f3 f4
  dsimp only at f0 f1 f2 f3 f4 l4 g4
  have b0 := World.block_lt_of_cell? _ _ f0
  rw [tlL_len] at l4
  exact ⟨ad, A4, c4, e, (hb.cell (p := ad.add (i * 5)) b0).trans f0, (hb.cell (p := ⟨(ad.add (i * 5)).block, (ad.add (i * 5)).off + 1, none⟩) b0).trans f1, (hb.cell (p := ⟨(ad.add (i * 5)).block, (ad.add (i * 5)).off + 2, none⟩) b0).trans f2, (hb.cell (p := ⟨(ad.add (i * 5)).block, (ad.add (i * 5)).off + 3, none⟩) b0).trans f3, (hb.cell (p := ⟨(ad.add (i * 5)).block, (ad.add (i * 5)).off + 4, none⟩) b0).trans f4, l4, Kd.C_below g4 hb⟩
theorem told_calls (n : ANode) (A : Option Addr) (c : Nat) (W : World) (hs : sizeT n ≤ 1000000000000) (hC : Kd.C k26 W A n.f3.length n.f3) (hc : n.f3.length ≤ c) (hT : TB W) :
    Calls Tryd.prog 21 #[.agg #[.string n.f0, .string n.f1, .int .i64 n.f2, .slice A n.f3.length c]] W fun e W' => ∃ A' c', e = .returned (.agg #[.string n.f0, .string n.f1, .int .i64 n.f2, .slice A' (tlL n.f3).length c']) ∧ n.f3.length ≤ c' ∧ Kd.C kRN W' A' (tlL n.f3).length (tlL n.f3) ∧ Below W.heap.size W W' := by
  obtain ⟨k, hk⟩ := Ev.rounds (told_ev _ n (Nat.le_refl _) hs)
  refine (scribelaw12_told.calls k n.f0 n.f1 n.f2 A c n.f3 _ _ _ _ W hC hc hT hk).mono ?_
  rintro e W' ⟨v, rfl, hR, hb⟩
  obtain ⟨A', c', rfl, hl, hC'⟩ := Kd.R_reads hR
  rw [tlL_len] at hl
  exact ⟨A', c', rfl, hl, hC', hb⟩
mutual
theorem sameT_refl : ∀ n : ANode, sameT n n = true
  | ⟨o, t, a, ks⟩ => by rw [sameT, sameL_refl ks]; simp
theorem sameL_refl : ∀ l : List ANode, sameL l l = true
  | [] => by rw [sameL]
  | k :: r => by rw [sameL, sameT_refl k, sameL_refl r]; rfl
end
theorem len_shift (d e : Int) (n : ANode) : (allT d n).length = (allT e n).length := by
  have := congrArg List.length (allT_shift d e n)
  simpa using this
mutual
theorem size_inT (d : Int) : ∀ (m : ANode) (x : Int × ANode), x ∈ allT d m → sizeT x.2 ≤ sizeT m
  | ⟨o, t, a, ks⟩, x, hx => by
    rw [allT_eq] at hx
    rcases List.mem_cons.1 hx with rfl | hx
    · exact Nat.le_refl _
    · have := size_inL (d + 1) ks x hx
      have h2 := sizeT_eq (⟨o, t, a, ks⟩ : ANode)
      have h3 := congrArg List.length (allKs_shift (d + 1) 0 ks)
      simp only [List.length_map] at h3
      dsimp only at h2
      omega
theorem size_inL (d : Int) : ∀ (l : List ANode) (x : Int × ANode), x ∈ allKs d l → sizeT x.2 ≤ (allKs d l).length
  | [], x, hx => by rw [allKs] at hx; cases hx
  | k :: r, x, hx => by
    rw [allKs] at hx ⊢
    rw [List.length_append]
    rcases List.mem_append.1 hx with hx | hx
    · have := size_inT d k x hx
      have h2 := len_shift d 0 k
      unfold sizeT at this
      have : sizeT x.2 ≤ (allT 0 k).length := size_inT d k x hx
      omega
    · have := size_inL d r x hx; omega
end
mutual
theorem pr_inT (d : Int) (P : ANode → Prop) (hP : ∀ n, P n → ∀ k ∈ n.f3, P k) : ∀ (m : ANode), P m → ∀ x ∈ allT d m, P x.2
  | ⟨o, t, a, ks⟩, h, x, hx => by
    rw [allT_eq] at hx
    rcases List.mem_cons.1 hx with rfl | hx
    · exact h
    · exact pr_inL (d + 1) P hP ks (fun k hk => hP _ h k hk) x hx
theorem pr_inL (d : Int) (P : ANode → Prop) (hP : ∀ n, P n → ∀ k ∈ n.f3, P k) : ∀ (l : List ANode), (∀ k ∈ l, P k) → ∀ x ∈ allKs d l, P x.2
  | [], h, x, hx => by rw [allKs] at hx; cases hx
  | k :: r, h, x, hx => by
    rw [allKs] at hx
    rcases List.mem_append.1 hx with hx | hx
    · exact pr_inT d P hP k (h k List.mem_cons_self) x hx
    · exact pr_inL d P hP r (fun k hk => h k (List.mem_cons_of_mem _ hk)) x hx
end
/-- the post, but at nothing else than the region's own end -/
def OnlyN (Q : Exit → Act → World → Prop) : Exit → Act → World → Prop
  | .normal, a, w => Q .normal a w
  | _, _, _ => False
theorem OnlyN.normal {Q : Exit → Act → World → Prop} {a : Act} {w : World} (h : Q .normal a w) : OnlyN Q .normal a w := h
theorem start_inN {P : Program} {ops : Array Oper} {Q : Exit → Act → World → Prop} {S : World → Prop} {ds : List Nat} {id n : Nat} {a : Act} {w : World} (rl m : Nat) (l : Array Bool) (hm : P.follows .mixedOrders = true) (hn : ops.size = n) (hl : Array.replicate n false = l) (hS : S w.drew) (hD : ops.all calmOp = true)
    (h : S w.drew → wpAnyLast P .any ops (OnlyN Q) S ds n l a w.drew) : (Code.region id ops true).wpIn (Fence.wide.inRound rl) m P Q a w :=
  Code.wpIn_mono (fun e a w h => by cases e <;> first | exact h | exact h.elim) (start_in rl m l hm hn hl hS (by rintro ⟨_, _, h⟩; exact h) hD h)
/-- what a round reads -/
def RS (gi gf b Bx : Nat) (ad : Addr) (i : Int) (nf f0 : Nat) (x : Int × ANode) (A4 : Option Addr) (c4 : Nat) (n : ANode) (A : Option Addr) (c : Nat) (X : World) : Prop :=
  X.cell? ⟨gi, 0, none⟩ = some (.int .i64 i) ∧ X.cell? ⟨gf, 0, none⟩ = some (.slice (some ad) nf f0) ∧ X.cell? (ad.add (b * 5)) = some (.int .i64 x.1) ∧ X.cell? ⟨(ad.add (b * 5)).block, (ad.add (b * 5)).off + 1, none⟩ = some (.string x.2.f0) ∧ X.cell? ⟨(ad.add (b * 5)).block, (ad.add (b * 5)).off + 2, none⟩ = some (.string x.2.f1) ∧
    X.cell? ⟨(ad.add (b * 5)).block, (ad.add (b * 5)).off + 3, none⟩ = some (.int .i64 x.2.f2) ∧ X.cell? ⟨(ad.add (b * 5)).block, (ad.add (b * 5)).off + 4, none⟩ = some (.slice A4 (tlL x.2.f3).length c4) ∧
    X.cell? ⟨Bx, 0, none⟩ = some (.string n.f0) ∧ X.cell? ⟨Bx, 1, none⟩ = some (.string n.f1) ∧ X.cell? ⟨Bx, 2, none⟩ = some (.int .i64 n.f2) ∧ X.cell? ⟨Bx, 3, none⟩ = some (.slice A n.f3.length c)
theorem RS.below {X Y : World} {gi gf b Bx : Nat} {ad : Addr} {i : Int} {nf f0 : Nat} {x : Int × ANode} {A4 : Option Addr} {c4 : Nat} {n : ANode} {A : Option Addr} {c : Nat} (h : RS gi gf b Bx ad i nf f0 x A4 c4 n A c X) (hb : Below X.heap.size X Y) : RS gi gf b Bx ad i nf f0 x A4 c4 n A c Y := by
  obtain ⟨h0, h1, h2, h3, h4, h5, h6, h7, h8, h9, h10⟩ := h
  have k2 := World.block_lt_of_cell? _ _ h2
  exact ⟨(hb.cell (World.block_lt_of_cell? _ _ h0)).trans h0, (hb.cell (World.block_lt_of_cell? _ _ h1)).trans h1, (hb.cell k2).trans h2, (hb.cell (p := ⟨(ad.add (b * 5)).block, (ad.add (b * 5)).off + 1, none⟩) k2).trans h3, (hb.cell (p := ⟨(ad.add (b * 5)).block, (ad.add (b * 5)).off + 2, none⟩) k2).trans h4, (hb.cell (p := ⟨(ad.add (b * 5)).block, (ad.add (b * 5)).off + 3, none⟩) k2).trans h5, (hb.cell (p := ⟨(ad.add (b * 5)).block, (ad.add (b * 5)).off + 4, none⟩) k2).trans h6,
    (hb.cell (World.block_lt_of_cell? _ _ h7)).trans h7, (hb.cell (World.block_lt_of_cell? _ _ h8)).trans h8, (hb.cell (World.block_lt_of_cell? _ _ h9)).trans h9, (hb.cell (World.block_lt_of_cell? _ _ h10)).trans h10⟩
end Go.Proofs.YtgkojnpbgkglgaaDoor.Pr
