/- Blanks ahead of a text change nothing but the place: the pure statement. -/
import Derived.Test.YtcbocfgiegdhmaaDoorPuJ
import Derived.DataShut
import Derived.Test.YtcbocfgiegdhmaaDoorPr22
import Derived.Test.YtcbocfgiegdhmaaDoorPr28
namespace Go.Proofs.YtcbocfgiegdhmaaDoor.Pr
open Go Go.RowKit Go.Proofs.YtcbocfgiegdhmaaDoorW.PrintWords Go.Proofs.YtcbocfgiegdhmaaDoorW.PrintLast Go.Proofs.YtcbocfgiegdhmaaDoorW.PrintMore

theorem cut_some (l : List UInt8) (m : Nat) (hm : m ≤ 1000000) : scribelaw01_Cut.f (B l) (m : Int) = some (B (l.take m)) := by
  unfold scribelaw01_Cut.f
  rw [B_size]
  by_cases h : (l.length : Int) > m
  · rw [if_pos h, if_pos (by omega), if_pos (by omega), B_extract, Int.toNat_natCast]
    rfl
  · rw [if_neg h, List.take_of_length_le (by omega)]
theorem scan_shift (m : Nat) (r : List UInt8) : ∀ (dg : Nat) (dot : Bool) (w p u n : Nat), scan r dg dot w p u (n + m) = ⟨(scan r dg dot w p u n).dg, (scan r dg dot w p u n).w, (scan r dg dot w p u n).p, (scan r dg dot w p u n).n + m⟩ := by
  induction r with
  | nil => intro dg dot w p u n; rfl
  | cons c r ih =>
    intro dg dot w p u n
    rw [scan, scan]
    repeat' split
    · rw [show n + m + 1 = n + 1 + m by omega]; exact ih _ _ _ _ _ _
    · rw [show n + m + 1 = n + 1 + m by omega]; exact ih _ _ _ _ _ _
    · rw [show n + m + 1 = n + 1 + m by omega]; exact ih _ _ _ _ _ _
    · rfl
theorem scan_dg (r : List UInt8) : ∀ (dg : Nat) (dot : Bool) (w p u n : Nat), (scan r dg dot w p u n).dg + n ≤ (scan r dg dot w p u n).n + dg := by
  induction r with
  | nil => intro dg dot w p u n; simp [scan]; omega
  | cons c r ih =>
    intro dg dot w p u n
    rw [scan]
    repeat' split
    · have := ih dg true w p u (n + 1); omega
    · have := ih (dg + 1) dot w (p + (c.toNat - 48) * u) (u / 10) (n + 1); omega
    · have := ih (dg + 1) dot (min (10 * w + (c.toNat - 48)) 10000000000000) p u (n + 1); omega
    · simp only; omega
theorem scan_take (r : List UInt8) : ∀ (dg : Nat) (dot : Bool) (w p u n m : Nat), (scan r dg dot w p u n).n = n + m → scan (r.take m) dg dot w p u n = scan r dg dot w p u n := by
  induction r with
  | nil => intro dg dot w p u n m h; simp
  | cons c r ih =>
    intro dg dot w p u n m h
    cases m with
    | zero =>
      rw [List.take_zero, scan]
      rw [scan] at h ⊢
      repeat' split at h
      · have := (scan_n r dg true w p u (n + 1)).1; omega
      · have := (scan_n r (dg + 1) dot w (p + (c.toNat - 48) * u) (u / 10) (n + 1)).1; omega
      · have := (scan_n r (dg + 1) dot (min (10 * w + (c.toNat - 48)) 10000000000000) p u (n + 1)).1; omega
      · rename_i h1 h2
        rw [if_neg h1, if_neg h2]
    | succ m =>
      rw [List.take_succ_cons, scan]
      rw [scan] at h
      conv => rhs; rw [scan]
      by_cases h1 : c = 46 ∧ dot = false
      · rw [if_pos h1] at h ⊢
        rw [if_pos h1]
        exact ih _ _ _ _ _ _ m (by omega)
      · rw [if_neg h1] at h ⊢
        rw [if_neg h1]
        by_cases h2 : isDig c = true
        · rw [if_pos h2] at h ⊢
          rw [if_pos h2]
          cases dot with
          | true => rw [if_pos rfl] at h ⊢; rw [if_pos rfl]; exact ih _ _ _ _ _ _ m (by omega)
          | false =>
            simp only [Bool.false_eq_true, if_false] at h ⊢
            exact ih _ _ _ _ _ _ m (by omega)
        · rw [if_neg h2, if_neg h2]
theorem blanks_shift (m : Nat) (l : List UInt8) : ∀ n, dropBlanks l (n + m) = dropBlanks l n + m := by
  induction l with
  | nil => intro n; rfl
  | cons c r ih =>
    intro n
    rw [dropBlanks, dropBlanks]
    split
    · rw [show n + m + 1 = n + 1 + m by omega]; exact ih _
    · rfl
theorem blanks_take (l : List UInt8) : ∀ n m, dropBlanks l n ≤ n + m → dropBlanks (l.take m) n = dropBlanks l n := by
  induction l with
  | nil => intro n m h; simp
  | cons c r ih =>
    intro n m h
    cases m with
    | zero =>
      rw [List.take_zero]
      have := (dropBlanks_le (c :: r) n).1
      rw [dropBlanks]
      omega
    | succ m =>
      rw [List.take_succ_cons, dropBlanks]
      rw [dropBlanks] at h
      conv => rhs; rw [dropBlanks]
      split
      · rename_i hb; rw [if_pos hb] at h; exact ih _ m (by omega)
      · rfl

def scOf (l : List UInt8) : Sc := scan (l.drop (dropBlanks l 0 + (signOf (l.drop (dropBlanks l 0))).2)) 0 false 0 0 100000 (dropBlanks l 0 + (signOf (l.drop (dropBlanks l 0))).2)
theorem scOf_def (l : List UInt8) : scOf l = scan (l.drop (dropBlanks l 0 + (signOf (l.drop (dropBlanks l 0))).2)) 0 false 0 0 100000 (dropBlanks l 0 + (signOf (l.drop (dropBlanks l 0))).2) := rfl
theorem prefixS_eq (l : List UInt8) : prefixS l = endS (signOf (l.drop (dropBlanks l 0))).1 (scOf l) := rfl
theorem prefix_blanks (m : Nat) (l : List UInt8) : prefixS (List.replicate m 32 ++ l) = ((prefixS l).1, if (scOf l).dg = 0 then 0 else (prefixS l).2 + m) := by
  have hb : dropBlanks (List.replicate m 32 ++ l) 0 = dropBlanks l 0 + m := by
    rw [drop_blanks _ (fun c hc => by rw [List.eq_of_mem_replicate hc]; decide), List.length_replicate, blanks_shift]
  have hd : ∀ i, (List.replicate m 32 ++ l).drop (i + m) = l.drop i := by
    intro i
    rw [Nat.add_comm, ← List.drop_drop, List.drop_left' (by simp)]
  have hsc : scOf (List.replicate m 32 ++ l) = ⟨(scOf l).dg, (scOf l).w, (scOf l).p, (scOf l).n + m⟩ := by
    unfold scOf
    rw [hb, hd, show dropBlanks l 0 + m + (signOf (l.drop (dropBlanks l 0))).2 = dropBlanks l 0 + (signOf (l.drop (dropBlanks l 0))).2 + m by omega, hd, scan_shift]
  rw [prefixS_eq, prefixS_eq, hsc, hb, hd]
  unfold endS
  by_cases h : (scOf l).dg = 0
  · rw [if_pos h, if_pos h, if_pos h]
  · rw [if_neg h, if_neg h, if_neg h]
    simp
theorem prefix_pos (l : List UInt8) : (prefixS l).2 > 0 ↔ (scOf l).dg ≠ 0 := by
  rw [prefixS_eq]
  have h := scan_dg (l.drop (dropBlanks l 0 + (signOf (l.drop (dropBlanks l 0))).2)) 0 false 0 0 100000 (dropBlanks l 0 + (signOf (l.drop (dropBlanks l 0))).2)
  have e : scan (l.drop (dropBlanks l 0 + (signOf (l.drop (dropBlanks l 0))).2)) 0 false 0 0 100000 (dropBlanks l 0 + (signOf (l.drop (dropBlanks l 0))).2) = scOf l := rfl
  rw [e] at h
  unfold endS
  split <;> simp <;> omega
theorem prefix_take (l : List UInt8) (h : (prefixS l).2 > 0) : prefixS (l.take (prefixS l).2.toNat) = prefixS l := by
  have hd := (prefix_pos l).1 h
  have e2 : (prefixS l).2 = (scOf l).n := by rw [prefixS_eq]; unfold endS; rw [if_neg hd]
  rw [e2, Int.toNat_natCast]
  have h1 := scan_dg (l.drop (dropBlanks l 0 + (signOf (l.drop (dropBlanks l 0))).2)) 0 false 0 0 100000 (dropBlanks l 0 + (signOf (l.drop (dropBlanks l 0))).2)
  have e : scan (l.drop (dropBlanks l 0 + (signOf (l.drop (dropBlanks l 0))).2)) 0 false 0 0 100000 (dropBlanks l 0 + (signOf (l.drop (dropBlanks l 0))).2) = scOf l := rfl
  rw [e] at h1
  have hb : dropBlanks (l.take (scOf l).n) 0 = dropBlanks l 0 := blanks_take l 0 _ (by omega)
  have hs : signOf ((l.take (scOf l).n).drop (dropBlanks l 0)) = signOf (l.drop (dropBlanks l 0)) := by
    rw [List.drop_take]
    cases hc : l.drop (dropBlanks l 0) with
    | nil => simp
    | cons c r =>
      rw [show (scOf l).n - dropBlanks l 0 = ((scOf l).n - dropBlanks l 0 - 1) + 1 by omega, List.take_succ_cons]
      rfl
  have hsc : scOf (l.take (scOf l).n) = scOf l := by
    rw [scOf_def (l.take (scOf l).n), hb, hs, List.drop_take, scan_take _ _ _ _ _ _ _ _ (by rw [e]; omega)]
    exact e
  rw [prefixS_eq, prefixS_eq l, hsc, hb, hs]

theorem blanks_loop (l : List UInt8) (hl : l.length ≤ 60) (n : Nat) (hn : n ≤ 20) (d : Nat) : ∀ i, i + d = n →
    Ev (fun k => scribelaw05_NumBlanks.l0 k (B l) (n : Int) (B (List.replicate i 32)) (i : Int)) true := by
  induction d with
  | succ d ih =>
    intro i hi
    refine Ev.succ ?_
    simp only [scribelaw05_NumBlanks.l0]
    have hw1 : wrap64 ((i : Int) + 1) = ((i + 1 : Nat) : Int) := by rw [w64 (by omega) (by omega)]; omega
    refine Ev.pos (by omega) (Ev.pos (by rw [B_size, List.length_replicate]; omega) ?_)
    rw [hw1, show (⟨#[32]⟩ : ByteArray) = B [32] from rfl, B_append]
    have : List.replicate i (32 : UInt8) ++ [32] = List.replicate (i + 1) 32 := by rw [List.replicate_succ']
    rw [this]
    exact ih (i + 1) (by omega)
  | zero =>
    intro i hi
    obtain rfl : i = n := by omega
    refine Ev.succ ?_
    simp only [scribelaw05_NumBlanks.l0]
    refine Ev.neg (by omega) (Ev.bind' (prefix_ev l (by omega)) (Ev.pos (by rw [B_size, B_size, List.length_replicate]; omega) ?_))
    rw [B_append]
    refine Ev.bind' (prefix_ev _ (by rw [List.length_append, List.length_replicate]; omega)) ?_
    rw [prefix_blanks]
    obtain ⟨h0, h1⟩ := prefix_at l
    have end_ : Ev (fun k => scribelaw05_NumBlanks.j2 k (B l) (prefixS l).1 (prefixS l).2 false) true := by
      refine Ev.succ ?_
      simp only [scribelaw05_NumBlanks.j2]
      refine Ev.neg (by simp) (Ev.pos h0 (Ev.pos (by rw [B_size]; exact h1) ?_))
      rw [B_extract]
      simp only [List.drop_zero, Nat.sub_zero]
      refine Ev.bind' (looks_ev _ (by rw [List.length_take]; omega)) (Ev.bind' awake_ev (Ev.pos rfl ?_))
      by_cases hz : (prefixS l).2 = 0
      · exact Ev.pos hz (Ev.now _)
      · refine Ev.neg hz ?_
        have hk : looksS (l.take (prefixS l).2.toNat) = ((prefixS l).1, true) := by
          unfold looksS
          rw [prefix_take l (by omega), if_pos (by omega)]
          refine Prod.ext rfl ?_
          simp only
          rw [List.drop_of_length_le (by rw [List.length_take]; omega)]
          decide
        rw [hk]
        exact Ev.pos rfl (Ev.const (by simp))
    refine Ev.pos rfl ?_
    by_cases hp : (prefixS l).2 > 0
    · refine Ev.pos hp ?_
      rw [if_neg ((prefix_pos l).1 hp)]
      refine Ev.pos (by simp only; rw [w64 (by omega) (by omega)]) (Ev.neg (by omega) end_)
    · have hd : (scOf l).dg = 0 := by
        rcases Nat.eq_zero_or_pos (scOf l).dg with h | h
        · exact h
        · exact absurd ((prefix_pos l).2 (by omega)) hp
      refine Ev.neg hp (Ev.pos (by omega) ?_)
      rw [if_pos hd]
      exact end_

theorem NumBlanks_ev (s : ByteArray) (n : Int) (_w0 : s.size ≤ 140737488351232) (_w1 : (Lit.int .i64 n).wf = true) : Ev (fun k => scribelaw05_NumBlanks.f k s n) true := by
  unfold scribelaw05_NumBlanks.f
  rw [← B_eta s]
  refine Ev.bindc (cut_some _ 60 (by omega)) ?_
  have hl : (s.data.toList.take 60).length ≤ 60 := by rw [List.length_take]; omega
  generalize s.data.toList.take 60 = l at *
  have out : Ev (fun k => scribelaw05_NumBlanks.j0 k (B l) n true) true := by
    refine Ev.succ ?_
    simp only [scribelaw05_NumBlanks.j0]
    exact Ev.pos (by simp) (Ev.bind' (f := fun _ t => some t) awake_ev (Ev.now _))
  by_cases h1 : n < 0
  · exact Ev.pos h1 out
  · refine Ev.neg h1 ?_
    by_cases h2 : n > 20
    · rw [show decide (n > 20) = true by simpa using h2]; exact out
    · rw [show decide (n > 20) = false by simpa using h2]
      obtain ⟨m, rfl⟩ : ∃ m : Nat, n = m := ⟨n.toNat, by omega⟩
      refine Ev.succ ?_
      simp only [scribelaw05_NumBlanks.j0]
      exact Ev.neg (by simp) (blanks_loop l hl m (by omega) m 0 (by omega))

end Go.Proofs.YtcbocfgiegdhmaaDoor.Pr
