/- Lists stand in one another as deep as may be: the pure statement. -/
import Derived.Test.YtghabadccaghcaaDoorPuPkR
import Derived.Test.YtghabadccaghcaaDoorPuPkB
import Derived.Test.YtghabadccaghcaaDoorPuPkAwake
import Derived.Test.YtghabadccaghcaaDoorPr9
import Derived.Test.YtghabadccaghcaaDoorPr23
namespace Go.Proofs.YtghabadccaghcaaDoor.Pr
open Go Go.RowKit Go.Proofs.YtghabadccaghcaaDoorW.PrintWords Go.Proofs.YtghabadccaghcaaDoorW.PrintLast Go.Proofs.YtghabadccaghcaaDoorW.PrintMore

def deepL (n : Nat) : List UInt8 := List.replicate n 40 ++ List.replicate n 41
theorem deepL_len (n : Nat) : (deepL n).length = 2 * n := by unfold deepL; simp; omega
theorem deepL_open (n i : Nat) (h : i < n) : ∃ r, (deepL n).drop i = 40 :: r := by
  have hl := deepL_len n
  rw [List.drop_eq_getElem_cons (by omega)]
  refine ⟨(deepL n).drop (i + 1), ?_⟩
  congr 1
  unfold deepL
  rw [List.getElem_append_left (by simpa using h)]
  simp
theorem deepL_close (n i : Nat) (h : n ≤ i) (h2 : i < 2 * n) : ∃ r, (deepL n).drop i = 41 :: r := by
  have hl := deepL_len n
  rw [List.drop_eq_getElem_cons (by omega)]
  refine ⟨(deepL n).drop (i + 1), ?_⟩
  congr 1
  unfold deepL
  rw [List.getElem_append_right (by simpa using h)]
  simp
/-- an end of a list, where nothing stands in it any more -/
theorem skip_close (n i d : Nat) (hn : n ≤ 100) (h : n ≤ i) (h2 : i < 2 * n) (hd : 1 ≤ d) (hd2 : d ≤ 100) :
    Ev (fun k => pack_Reader_Skip.l0 k (B (deepL n)) (i : Int) (d : Int) 0) (B (deepL n), ((i + 1 : Nat) : Int), ((d - 1 : Nat) : Int), 0) := by
  obtain ⟨r, hr⟩ := deepL_close n i h h2
  have hm := more_0 (deepL n) i (d : Int)
  rw [hr] at hm
  have hc := close_ev (deepL n) (by rw [deepL_len]; omega) d i (by omega)
  unfold closeS at hc
  rw [hr, if_neg (by omega)] at hc
  simp only [if_true] at hc
  refine Ev.succ ?_
  simp only [pack_Reader_Skip.l0]
  refine Ev.bindc hm (Ev.neg (by simp) (Ev.bind' hc ?_))
  exact Ev.now _
theorem skip_l0_e (s : ByteArray) (a d e : Int) (h : e ≠ 0) : Ev (fun k => pack_Reader_Skip.l0 k s a d e) (s, a, d, e) := by
  refine Ev.succ ?_
  simp only [pack_Reader_Skip.l0]
  refine Ev.bindc (more_e s a d e h) (Ev.neg (by simp) (Ev.bind' (close_e s a d e h) ?_))
  exact Ev.now _
theorem skip_deep (n : Nat) (hn : n ≤ 100) (m : Nat) : ∀ i, i + (m + 1) = n → i ≤ 60 →
    Ev (fun k => pack_Reader_Skip.f k (B (deepL n)) (i : Int) (i : Int) 0) (if n ≤ 60 then (B (deepL n), ((2 * n - i : Nat) : Int), (i : Int), 0) else (B (deepL n), 60, 60, 14)) := by
  have hl := deepL_len n
  induction m with
  | zero =>
    intro i hi h60
    obtain ⟨r, hr⟩ := deepL_open n i (by omega)
    obtain ⟨hb, hlt, _⟩ := bt_drop hr
    have ho := open_ev (deepL n) (by omega) i i (by omega)
    unfold openS at ho
    refine Ev.succ ?_
    simp only [pack_Reader_Skip.f]
    refine Ev.pos (by trivial) (Ev.neg (by rw [B_size]; omega) (Ev.pos (by omega) (Ev.pos (by rw [B_size]; omega) ?_)))
    rw [hb]
    refine Ev.neg (by decide) (Ev.pos (by decide) ?_)
    by_cases h : 60 ≤ i
    · rw [if_pos h] at ho
      rw [if_neg (by omega)]
      refine Ev.bind' ho ?_
      obtain rfl : i = 60 := by omega
      exact skip_l0_e _ _ _ _ (show (14 : Int) ≠ 0 by decide)
    · rw [if_neg h, hr] at ho
      simp only [if_true] at ho
      rw [if_pos (by omega)]
      refine Ev.bind' ho ?_
      have := skip_close n (i + 1) (i + 1) hn (by omega) (by omega) (by omega) (by omega)
      rw [show i + 1 - 1 = i by omega, show i + 1 + 1 = 2 * n - i by omega] at this
      exact this
  | succ m ih =>
    intro i hi h60
    obtain ⟨r, hr⟩ := deepL_open n i (by omega)
    obtain ⟨hb, hlt, _⟩ := bt_drop hr
    have ho := open_ev (deepL n) (by omega) i i (by omega)
    unfold openS at ho
    refine Ev.succ ?_
    simp only [pack_Reader_Skip.f]
    refine Ev.pos (by trivial) (Ev.neg (by rw [B_size]; omega) (Ev.pos (by omega) (Ev.pos (by rw [B_size]; omega) ?_)))
    rw [hb]
    refine Ev.neg (by decide) (Ev.pos (by decide) ?_)
    by_cases h : 60 ≤ i
    · rw [if_pos h] at ho
      rw [if_neg (by omega)]
      refine Ev.bind' ho ?_
      obtain rfl : i = 60 := by omega
      exact skip_l0_e _ _ _ _ (show (14 : Int) ≠ 0 by decide)
    · rw [if_neg h, hr] at ho
      simp only [if_true] at ho
      refine Ev.bind' ho ?_
      obtain ⟨r2, hr2⟩ := deepL_open n (i + 1) (by omega)
      have hm := more_0 (deepL n) (i + 1) ((i + 1 : Nat) : Int)
      rw [hr2] at hm
      refine Ev.succ ?_
      simp only [pack_Reader_Skip.l0]
      refine Ev.bindc hm (Ev.pos (by rfl) (Ev.bind' (ih (i + 1) (by omega) (by omega)) ?_))
      by_cases hn60 : n ≤ 60
      · rw [if_pos hn60, if_pos hn60]
        have := skip_close n (2 * n - (i + 1)) (i + 1) hn (by omega) (by omega) (by omega) (by omega)
        rw [show i + 1 - 1 = i by omega, show 2 * n - (i + 1) + 1 = 2 * n - i by omega] at this
        exact this
      · rw [if_neg hn60, if_neg hn60]
        exact skip_l0_e _ _ _ _ (show (14 : Int) ≠ 0 by decide)
theorem deep_l1 (n : Nat) (hn : n ≤ 100) (d : Nat) : ∀ j, j + d = n →
    Ev (fun k => scribelaw01_PackDeep.l1 k (n : Int) (B (List.replicate n 40 ++ List.replicate j 41)) (j : Int)) true := by
  induction d with
  | zero =>
    intro j hj
    obtain rfl : j = n := by omega
    refine Ev.succ ?_
    simp only [scribelaw01_PackDeep.l1]
    refine Ev.neg (by omega) (Ev.bindc (g := pack_Read.f (B (deepL j))) (a := (B (deepL j), 0, 0, 0)) rfl ?_)
    dsimp only
    have hl := deepL_len j
    have tail : ∀ p dd e : Int, ((j ≤ 60 ∧ p = ((2 * j : Nat) : Int) ∧ dd = 0 ∧ e = 0) ∨ (60 < j ∧ p = 60 ∧ dd = 60 ∧ e = 14)) → Ev (fun k => scribelaw01_PackDeep.j3 k (j : Int) (B (deepL j)) p dd e) true := by
      intro p dd e h
      refine Ev.succ ?_
      simp only [scribelaw01_PackDeep.j3]
      rcases h with ⟨h, rfl, rfl, rfl⟩ | ⟨h, rfl, rfl, rfl⟩
      · have hd := done_0 (deepL j) (2 * j) 0
        rw [if_pos ⟨by omega, by omega⟩] at hd
        refine Ev.neg (by omega) (Ev.bindc (a := true) rfl (Ev.pos rfl (Ev.bindc hd (Ev.pos rfl ?_))))
        refine Ev.bindc (a := (((2 * j : Nat) : Int), B (deepL j), ((2 * j : Nat) : Int), 0, 0)) rfl ?_
        rw [w64 (by omega) (by omega)]
        have : (((2 * j : Nat) : Int) == 2 * (j : Int)) = true := by simp
        exact Ev.const (by rw [this])
      · refine Ev.pos (by omega) (Ev.bindc (a := true) rfl (Ev.pos rfl (Ev.bindc (done_e _ _ _ _ (by decide)) (Ev.pos rfl ?_))))
        exact Ev.const rfl
    by_cases h0 : j = 0
    · subst h0
      exact Ev.neg (by omega) (tail _ _ _ (.inl ⟨by omega, rfl, rfl, rfl⟩))
    · refine Ev.pos (by omega) ?_
      have hs := skip_deep j hn (j - 1) 0 (by omega) (by omega)
      refine Ev.bind' hs ?_
      by_cases h60 : j ≤ 60
      · rw [if_pos h60]
        exact tail _ _ _ (.inl ⟨h60, rfl, rfl, rfl⟩)
      · rw [if_neg h60]
        exact tail _ _ _ (.inr ⟨by omega, rfl, rfl, rfl⟩)
  | succ d ih =>
    intro j hj
    refine Ev.succ ?_
    simp only [scribelaw01_PackDeep.l1]
    refine Ev.pos (by omega) (Ev.pos (by rw [B_size, List.length_append, List.length_replicate, List.length_replicate]; omega) ?_)
    rw [w64 (by omega) (by omega), B_lit [41], B_append, List.append_assoc, show List.replicate j (41 : UInt8) ++ [41] = List.replicate (j + 1) 41 from List.replicate_succ'.symm]
    exact ih (j + 1) (by omega)
theorem deep_l0 (n : Nat) (hn : n ≤ 100) (d : Nat) : ∀ j, j + d = n →
    Ev (fun k => scribelaw01_PackDeep.l0 k (n : Int) (B (List.replicate j 40)) (j : Int)) true := by
  induction d with
  | zero =>
    intro j hj
    obtain rfl : j = n := by omega
    refine Ev.succ ?_
    simp only [scribelaw01_PackDeep.l0]
    refine Ev.neg (by omega) ?_
    have := deep_l1 j hn j 0 (by omega)
    rw [List.replicate_zero, List.append_nil] at this
    exact this
  | succ d ih =>
    intro j hj
    refine Ev.succ ?_
    simp only [scribelaw01_PackDeep.l0]
    refine Ev.pos (by omega) (Ev.pos (by rw [B_size, List.length_replicate]; omega) ?_)
    rw [w64 (by omega) (by omega), B_lit [40], B_append, show List.replicate j (40 : UInt8) ++ [40] = List.replicate (j + 1) 40 from List.replicate_succ'.symm]
    exact ih (j + 1) (by omega)
theorem PackDeep_ev (n : Int) (_w0 : (Lit.int .i64 n).wf = true) : Ev (fun k => scribelaw01_PackDeep.f k n) true := by
  unfold scribelaw01_PackDeep.f
  have yes : Ev (fun k => scribelaw01_PackDeep.j0 k n true) true := by
    refine Ev.succ ?_
    simp only [scribelaw01_PackDeep.j0]
    exact Ev.pos (by trivial) (Ev.bindc (a := true) rfl (Ev.now _))
  by_cases h0 : n < 0
  · exact Ev.pos h0 yes
  · refine Ev.neg h0 ?_
    by_cases h1 : n > 100
    · rw [decide_eq_true h1]
      exact yes
    · rw [decide_eq_false h1]
      obtain ⟨m, rfl⟩ := Int.eq_ofNat_of_zero_le (by omega : 0 ≤ n)
      refine Ev.succ ?_
      simp only [scribelaw01_PackDeep.j0]
      exact Ev.neg (by simp) (deep_l0 m (by omega) m 0 (by omega))
end Go.Proofs.YtghabadccaghcaaDoor.Pr
