/- Two texts with a line's end between have the tokens of both: the pure statement. -/
import Derived.Test.YtpnkcihiliagcaaDoorPuLxO
import Derived.Test.YtpnkcihiliagcaaDoorPr11
namespace Go.Proofs.YtpnkcihiliagcaaDoor.Pr
open Go Go.RowKit Go.Proofs.YtpnkcihiliagcaaDoorW.PrintWords Go.Proofs.YtpnkcihiliagcaaDoorW.PrintLast Go.Proofs.YtpnkcihiliagcaaDoorW.PrintMore
set_option linter.unusedVariables false
set_option linter.unusedSimpArgs false

theorem rdl_at (xs : List Tok) (i : Nat) (h : i < xs.length) : rd_T29 xs (i : Int) = xs[i] := by
  simp [rd_T29, List.getD, h]
theorem lines_two (a : ByteArray) (la lb : List Tok) (x y : Tok) (hs : a.size ≤ 200) (hla : la.length ≤ 10000) (hlb : lb.length ≤ 10000) (hat : ∀ t ∈ lb, 0 ≤ t.f2 ∧ t.f2 ≤ 10000) (d : Nat) : ∀ i : Nat, i + d = lb.length →
    Ev (fun k => scribelaw11_LexLines.l1 k a (la ++ [x]) lb ((la ++ [⟨1, ⟨#[]⟩, (a.size : Int)⟩]) ++ lb.map (shT (a.size + 1))) (lb.length : Int) (i : Int)) true := by
  have hw0 : wrap64 (((la ++ [x]).length : Int) - 1) = (la.length : Int) := by
    rw [List.length_append, List.length_singleton, w64 (by omega) (by omega)]; omega
  have hlen : ((la ++ [(⟨1, ⟨#[]⟩, (a.size : Int)⟩ : Tok)]) ++ lb.map (shT (a.size + 1))).length = la.length + 1 + lb.length := by simp; omega
  induction d with
  | zero =>
    intro i hi
    refine Ev.succ ?_
    simp only [scribelaw11_LexLines.l1]
    rw [hw0]
    refine Ev.neg (by omega) (Ev.bindc awake11_ev (Ev.pos rfl (Ev.pos (by omega) (Ev.pos (by rw [hlen]; omega) ?_))))
    rw [rdl_at _ _ (by rw [hlen]; omega), List.getElem_append_left (by simp), List.getElem_append_right (by omega)]
    simp
    exact Ev.now _
  | succ d ih =>
    intro i hi
    refine Ev.succ ?_
    simp only [scribelaw11_LexLines.l1]
    have hw1 : wrap64 (((la ++ [x]).length : Int) + (i : Int)) = ((la.length + 1 + i : Nat) : Int) := by
      rw [List.length_append, List.length_singleton, w64 (by omega) (by omega)]; omega
    have hw : wrap64 ((i : Int) + 1) = ((i + 1 : Nat) : Int) := by rw [w64 (by omega) (by omega)]; omega
    rw [hw1, hw]
    have hn : rd_T29 ((la ++ [(⟨1, ⟨#[]⟩, (a.size : Int)⟩ : Tok)]) ++ lb.map (shT (a.size + 1))) ((la.length + 1 + i : Nat) : Int) = shT (a.size + 1) (lb[i]'(by omega)) := by
      rw [rdl_at _ _ (by rw [hlen]; omega), List.getElem_append_right (by rw [List.length_append, List.length_singleton]; omega), List.getElem_map]
      congr 2
      simp
    have hr := rdl_at lb i (by omega)
    have ht := hat (lb[i]'(by omega)) (List.getElem_mem _)
    rw [hn, hr]
    have hw2 : wrap64 ((wrap64 ((lb[i]'(by omega)).f2 + (a.size : Int))) + 1) = ((a.size + 1 : Nat) : Int) + (lb[i]'(by omega)).f2 := by
      rw [w64 (n := (lb[i]'(by omega)).f2 + (a.size : Int)) (by omega) (by omega), w64 (by omega) (by omega)]; omega
    rw [hw2]
    exact Ev.pos (by omega) (Ev.pos (by omega) (Ev.pos (by rw [hlen]; omega) (Ev.pos (by omega) (Ev.pos (by omega) (Ev.pos rfl (Ev.pos rfl (Ev.pos rfl (ih (i + 1) (by omega)))))))))
theorem lines_one (a : ByteArray) (la lb : List Tok) (x y : Tok) (hs : a.size ≤ 200) (hla : la.length ≤ 10000) (hlb : lb.length ≤ 10000) (hat : ∀ t ∈ lb, 0 ≤ t.f2 ∧ t.f2 ≤ 10000) (d : Nat) : ∀ i : Nat, i + d = la.length →
    Ev (fun k => scribelaw11_LexLines.l0 k a (la ++ [x]) lb ((la ++ [⟨1, ⟨#[]⟩, (a.size : Int)⟩]) ++ lb.map (shT (a.size + 1))) (i : Int)) true := by
  have hw0 : wrap64 (((la ++ [x]).length : Int) - 1) = (la.length : Int) := by
    rw [List.length_append, List.length_singleton, w64 (by omega) (by omega)]; omega
  have hlen : ((la ++ [(⟨1, ⟨#[]⟩, (a.size : Int)⟩ : Tok)]) ++ lb.map (shT (a.size + 1))).length = la.length + 1 + lb.length := by simp; omega
  induction d with
  | zero =>
    intro i hi
    refine Ev.succ ?_
    simp only [scribelaw11_LexLines.l0]
    rw [hw0]
    exact Ev.neg (by omega) (lines_two a la lb x y hs hla hlb hat _ 0 (Nat.zero_add _))
  | succ d ih =>
    intro i hi
    refine Ev.succ ?_
    simp only [scribelaw11_LexLines.l0]
    rw [hw0]
    have hw : wrap64 ((i : Int) + 1) = ((i + 1 : Nat) : Int) := by rw [w64 (by omega) (by omega)]; omega
    refine Ev.pos (by omega) (Ev.pos (by omega) (Ev.pos (by rw [hlen]; omega) (Ev.pos (by simp; omega) ?_)))
    rw [rdl_at _ i (by rw [hlen]; omega), rdl_at _ i (by simp; omega), List.getElem_append_left (by simp; omega), List.getElem_append_left (by omega), List.getElem_append_left (by omega), hw]
    exact Ev.neg (by simp) (ih (i + 1) (by omega))
theorem LexLines_ev (a0 a1 : ByteArray) (_w0 : a0.size ≤ 140737488351232) (_w1 : a1.size ≤ 140737488351232) : Ev (fun k => scribelaw11_LexLines.f k a0 a1) true := by
  unfold scribelaw11_LexLines.f
  obtain ⟨a, ha, has⟩ := cut_some a0 200
  obtain ⟨b, hb, hbs⟩ := cut_some a1 200
  refine Ev.bindc ha (Ev.bindc hb ?_)
  have base : ∀ c : Bool, Ev (fun k => scribelaw11_LexLines.j0 k a b c) true := by
    intro c
    refine Ev.succ ?_
    simp only [scribelaw11_LexLines.j0]
    by_cases hc : c = true
    · exact Ev.pos hc (Ev.bindc awake11_ev (Ev.now _))
    · refine Ev.neg hc ?_
      have bad : ∀ l m, Ev (fun k => scribelaw11_LexLines.j1 k a b l m true) true := fun l m => by
        refine Ev.succ ?_
        simp only [scribelaw11_LexLines.j1]
        exact Ev.pos trivial (Ev.bindc awake11_ev (Ev.now _))
      rcases Lex_good a (by omega) with ⟨la, hla, hga⟩ | ⟨q, hq, h0, h1⟩
      · rcases Lex_good b (by omega) with ⟨lb, hlb, hgb⟩ | ⟨q, hq, h0, h1⟩
        · have la1 := hga.len
          have lb1 := hgb.len
          refine Ev.bindc hla (Ev.bindc hlb (Ev.pos rfl (Ev.pos rfl (Ev.neg (by simp; omega) ?_))))
          rw [show ((((lb ++ [(⟨0, ⟨#[]⟩, (b.size : Int)⟩ : Tok)]).length : Int) == 0)) = false by simp; omega]
          have hlx := lex_lines a b la (lb ++ [⟨0, ⟨#[]⟩, (b.size : Int)⟩]) hla hlb (by simp) (by omega)
          have hat : ∀ t ∈ lb ++ [(⟨0, ⟨#[]⟩, (b.size : Int)⟩ : Tok)], 0 ≤ t.f2 ∧ t.f2 ≤ 10000 := by
            intro t ht
            rcases List.mem_append.1 ht with h | h
            · have := hgb.all t h; omega
            · obtain rfl : t = _ := List.mem_singleton.1 h
              simp only; omega
          have hl2 : (lb ++ [(⟨0, ⟨#[]⟩, (b.size : Int)⟩ : Tok)]).length ≤ 10000 := by simp; omega
          generalize lb ++ [(⟨0, ⟨#[]⟩, (b.size : Int)⟩ : Tok)] = lb2 at hlx hat hl2 ⊢
          refine Ev.succ ?_
          simp only [scribelaw11_LexLines.j1]
          refine Ev.neg (by decide) (Ev.pos (by omega) (Ev.pos (by rw [ByteArray.size_append, show (⟨#[10]⟩ : ByteArray).size = 1 from rfl]; omega) (Ev.bindc hlx (Ev.pos rfl ?_))))
          rw [show (((((la ++ [(⟨1, ⟨#[]⟩, (a.size : Int)⟩ : Tok)]) ++ lb2.map (shT (a.size + 1))).length : Int)) != (wrap64 (((la ++ [(⟨0, ⟨#[]⟩, (a.size : Int)⟩ : Tok)]).length : Int) + (lb2.length : Int)))) = false by
            rw [w64 (by simp; omega) (by simp; omega)]; simp; omega]
          refine Ev.succ ?_
          simp only [scribelaw11_LexLines.j2]
          exact Ev.neg (by decide) (lines_one a la lb2 _ ⟨0, ⟨#[]⟩, 0⟩ (by omega) (by omega) hl2 hat _ 0 (Nat.zero_add _))
        · exact Ev.bindc hla (Ev.bindc hq (Ev.pos rfl (Ev.neg (by simp) (bad _ _))))
      · obtain ⟨m, hm⟩ : ∃ m, lex_Lex.f b = some m := by
          rcases Lex_good b (by omega) with ⟨lb, hlb, _⟩ | ⟨q, hq, _, _⟩
          · exact ⟨_, hlb⟩
          · exact ⟨_, hq⟩
        exact Ev.bindc hq (Ev.bindc hm (Ev.neg (by simp) (bad _ _)))
  by_cases h : (a.size : Int) > 0
  · have hw : wrap64 ((a.size : Int) - 1) = (a.size : Int) - 1 := w64 (by omega) (by omega)
    rw [hw]
    exact Ev.pos h (Ev.pos (by omega) (Ev.pos (by omega) (base _)))
  · exact Ev.neg h (base _)
end Go.Proofs.YtpnkcihiliagcaaDoor.Pr
