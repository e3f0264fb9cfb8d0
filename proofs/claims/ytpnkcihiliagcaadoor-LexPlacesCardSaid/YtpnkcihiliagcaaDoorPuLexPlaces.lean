/- The places of tokens rise: the pure statement. -/
import Derived.Test.YtpnkcihiliagcaaDoorPuLxM
import Derived.Test.YtpnkcihiliagcaaDoorPr10
namespace Go.Proofs.YtpnkcihiliagcaaDoor.Pr
open Go Go.RowKit Go.Proofs.YtpnkcihiliagcaaDoorW.PrintWords Go.Proofs.YtpnkcihiliagcaaDoorW.PrintLast Go.Proofs.YtpnkcihiliagcaaDoorW.PrintMore

theorem rd_at (xs : List Tok) (i : Nat) (h : i < xs.length) : rd_T29 xs (i : Int) = xs[i] := by
  simp [rd_T29, List.getD, h]
theorem places_loop (xs : List Tok) (hx : xs.length ≤ 1000000) (ha : xs.Pairwise (fun a b => a.f2 < b.f2)) (d : Nat) : ∀ i : Nat, i + d = xs.length → Ev (fun k => scribelaw11_LexPlaces.l0 k xs (xs.length : Int) (i : Int)) true := by
  induction d with
  | zero =>
    intro i hi
    refine Ev.succ ?_
    simp only [scribelaw11_LexPlaces.l0]
    exact Ev.neg (by omega) (Ev.bindc awake11_ev (Ev.now _))
  | succ d ih =>
    intro i hi
    refine Ev.succ ?_
    simp only [scribelaw11_LexPlaces.l0]
    refine Ev.pos (by omega) ?_
    have hw : wrap64 ((i : Int) + 1) = ((i + 1 : Nat) : Int) := by rw [w64 (by omega) (by omega)]; omega
    have hnext : Ev (fun k => scribelaw11_LexPlaces.l0 k xs (xs.length : Int) (wrap64 ((i : Int) + 1))) true := by
      rw [hw]; exact ih (i + 1) (by omega)
    by_cases h0 : i = 0
    · exact Ev.neg (by omega) hnext
    · refine Ev.pos (by omega) (Ev.pos (by omega) (Ev.pos (by omega) ?_))
      have hw2 : wrap64 ((i : Int) - 1) = ((i - 1 : Nat) : Int) := by rw [w64 (by omega) (by omega)]; omega
      have hr := rd_at xs i (by omega)
      have hr2 := rd_at xs (i - 1) (by omega)
      have hlt : (xs[i - 1]'(by omega)).f2 < (xs[i]'(by omega)).f2 := List.pairwise_iff_getElem.1 ha (i - 1) i (by omega) (by omega) (by omega)
      rw [hw2]
      refine Ev.pos (by omega) (Ev.pos (by omega) ?_)
      rw [hr, hr2]
      refine Ev.neg (by omega) ?_
      by_cases hk : (xs[i]'(by omega)).f0 = 0
      · exact Ev.pos hk (Ev.neg (by omega) hnext)
      · exact Ev.neg hk hnext
theorem LexPlaces_ev (a0 : ByteArray) (_w0 : a0.size ≤ 140737488351232) : Ev (fun k => scribelaw11_LexPlaces.f k a0) true := by
  unfold scribelaw11_LexPlaces.f
  obtain ⟨b, hb, hbs⟩ := cut_some a0 500
  refine Ev.bindc hb ?_
  rcases Lex_good b (by omega) with ⟨l, hl, hg⟩ | ⟨q, hq, h0, h1⟩
  · refine Ev.bindc hl (Ev.pos rfl (Ev.neg (by simp; omega) ?_))
    have hlen := hg.len
    simp only [List.length_append, List.length_singleton]
    have hw : wrap64 (((l.length + 1 : Nat) : Int) - 1) = (l.length : Int) := by rw [w64 (by omega) (by omega)]; omega
    rw [hw]
    refine Ev.pos (by omega) (Ev.pos (by omega) ?_)
    rw [rd_at _ l.length (by simp)]
    simp only [List.getElem_concat_length]
    refine Ev.pos (by simp) ?_
    rw [show ((b.size : Int) != (b.size : Int)) = false by simp]
    refine Ev.succ ?_
    simp only [scribelaw11_LexPlaces.j0]
    refine Ev.neg (by decide) ?_
    refine places_loop _ (by simp; omega) (List.pairwise_append.2 ⟨hg.asc, by simp, fun x hx y hy => ?_⟩) _ 0 (Nat.zero_add _)
    obtain rfl : y = _ := List.mem_singleton.1 hy
    exact (hg.all x hx).2.1
  · refine Ev.bindc hq (Ev.neg (by simp) (Ev.bindc awake11_ev (Ev.pos rfl (Ev.pos rfl (Ev.pos h0 ?_)))))
    rw [decide_eq_true h1]
    exact Ev.now _
end Go.Proofs.YtpnkcihiliagcaaDoor.Pr
