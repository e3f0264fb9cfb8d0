/- format: values that are good; what a format's print is, where they are. -/
import Derived.Test.YtmobbclpfbkkkaaDoorPuFmtG
import Derived.Test.YtmobbclpfbkkkaaDoorPr15
import Derived.Test.YtmobbclpfbkkkaaDoorPr16
import Derived.Test.YtmobbclpfbkkkaaDoorPr17
import Derived.Test.YtmobbclpfbkkkaaDoorPr18
import Derived.Test.YtmobbclpfbkkkaaDoorPr20
namespace Go.Proofs.YtmobbclpfbkkkaaDoor.Pr
open Go Go.RowKit Go.Proofs.YtmobbclpfbkkkaaDoorW.PrintWords Go.Proofs.YtmobbclpfbkkkaaDoorW.PrintLast Go.Proofs.YtmobbclpfbkkkaaDoorW.PrintMore

theorem fit_clamp (s : Bool) (n : Int) (h : 0 ≤ n) : fitI (clampS s n) := by
  unfold fitI clampS
  repeat' split
  all_goals omega
theorem fit_prefix (l : List UInt8) : fitI (prefixS l).1 := by
  unfold prefixS endS
  simp only
  split
  · unfold fitI; simp
  · exact fit_clamp _ _ (by omega)
theorem textS_le (a : Int) (ha : fitI a) : (textS a).length ≤ 80 := by
  unfold fitI at ha
  unfold textS textAbs
  have h1 := nDigits_le (a.natAbs / 1000000) (by omega)
  have h2 := places_le (a.natAbs % 1000000) (Nat.mod_lt _ (by omega))
  rw [List.length_append, List.length_append, Lib.decDigits_length]
  have e1 : (if a < 0 then [45] else ([] : List UInt8)).length ≤ 1 := by split <;> simp
  have e2 : (if a.natAbs % 1000000 = 0 then [] else 46 :: places (a.natAbs % 1000000)).length ≤ 21 := by split <;> simp; omega
  omega
theorem good_ok (kd n : Int) (l : List UInt8) (h : goodB kd n l = true) (hl : l.length ≤ 100) : okCl (kd, n, l) := by
  have hfit : kd = 1 → fitI n := good_one h
  refine ⟨?_, ?_, by simp only; omega⟩
  · show fitI (numS kd n l)
    unfold numS
    split
    · exact fit_prefix l
    · rename_i h2
      by_cases h1 : kd = 1
      · exact hfit h1
      · unfold goodB at h
        by_cases h0 : kd = 0
        · rw [if_pos h0] at h
          simp only [Bool.and_eq_true, beq_iff_eq] at h
          rw [h.1]; unfold fitI; omega
        · rw [if_neg h0, if_neg h1, if_neg h2] at h
          split at h
          · simp only [Bool.and_eq_true, beq_iff_eq] at h
            rw [← h.2]
            exact fit_prefix l
          · cases h
  · show (strS kd n l).length ≤ 400
    unfold strS
    split
    · rename_i h1
      have := textS_le n (hfit h1)
      omega
    · omega
theorem ccut7 (x : S32) : ∃ l : List UInt8, l.length ≤ 100 ∧ scribelaw06_Cut.f x.f0 x.f1 x.f2 = some (x.f0, x.f1, B l) := by
  obtain ⟨l, hl, hc⟩ := cut_some x.f2 100 (by omega)
  refine ⟨l, hl, ?_⟩
  unfold scribelaw06_Cut.f
  rw [show (100 : Int) = ((100 : Nat) : Int) from rfl, hc]
  rfl
theorem good_loop (l1 : List S32) (n : Nat) (hn : n ≤ 100) (d : Nat) : ∀ (i : Nat) (acc : List S32), n - i = d → i ≤ n → acc.length ≤ i → (∀ x ∈ acc, okCl (cl x)) →
    ∃ r, Ev (fun k => scribelaw07_Good.l0 k l1 (n : Int) acc (i : Int)) r ∧ r.length ≤ n ∧ ∀ x ∈ r, okCl (cl x) := by
  induction d with
  | zero =>
    intro i acc hd hi ha hok
    obtain rfl : i = n := by omega
    refine ⟨acc, ?_, ha, hok⟩
    refine Ev.succ ?_
    simp only [scribelaw07_Good.l0]
    by_cases h : (i : Int) < (l1.length : Int)
    · refine Ev.pos h (Ev.succ ?_)
      simp only [scribelaw07_Good.j1]
      exact Ev.neg (by simp) (Ev.now _)
    · refine Ev.neg h (Ev.succ ?_)
      simp only [scribelaw07_Good.j1]
      exact Ev.neg (by simp) (Ev.now _)
  | succ d ih =>
    intro i acc hd hi ha hok
    by_cases h : (i : Int) < (l1.length : Int)
    · obtain ⟨l, hl, hcut⟩ := ccut7 (rd_T32 l1 (i : Int))
      have hw1 : wrap64 ((i : Int) + 1) = ((i + 1 : Nat) : Int) := by rw [w64 (by omega) (by omega)]; omega
      have hg := good_ev (rd_T32 l1 (i : Int)).f0 (rd_T32 l1 (i : Int)).f1 l (by omega)
      by_cases hgood : goodB (rd_T32 l1 (i : Int)).f0 (rd_T32 l1 (i : Int)).f1 l = true
      · have hx := good_ok _ _ _ hgood hl
        obtain ⟨r, hr, hrl, hrok⟩ := ih (i + 1) (acc ++ [⟨(rd_T32 l1 (i : Int)).f0, (rd_T32 l1 (i : Int)).f1, B l⟩]) (by omega) (by omega) (by rw [List.length_append, List.length_singleton]; omega) (fun x hx' => by
          rcases List.mem_append.1 hx' with hx' | hx'
          · exact hok x hx'
          · rw [List.mem_singleton.1 hx']; exact hx)
        refine ⟨r, ?_, hrl, hrok⟩
        refine Ev.succ ?_
        simp only [scribelaw07_Good.l0]
        refine Ev.pos h (Ev.succ ?_)
        simp only [scribelaw07_Good.j1]
        refine Ev.pos (by simp; omega) (Ev.pos (by omega) (Ev.pos h (Ev.bindc hcut (Ev.bind' hg ?_))))
        refine Ev.pos hgood (Ev.pos (by omega) ?_)
        rw [hw1]
        exact hr
      · obtain ⟨r, hr, hrl, hrok⟩ := ih (i + 1) acc (by omega) (by omega) (by omega) hok
        refine ⟨r, ?_, hrl, hrok⟩
        refine Ev.succ ?_
        simp only [scribelaw07_Good.l0]
        refine Ev.pos h (Ev.succ ?_)
        simp only [scribelaw07_Good.j1]
        refine Ev.pos (by simp; omega) (Ev.pos (by omega) (Ev.pos h (Ev.bindc hcut (Ev.bind' hg ?_))))
        refine Ev.neg hgood ?_
        rw [hw1]
        exact hr
    · refine ⟨acc, ?_, by omega, hok⟩
      refine Ev.succ ?_
      simp only [scribelaw07_Good.l0]
      refine Ev.neg h (Ev.succ ?_)
      simp only [scribelaw07_Good.j1]
      exact Ev.neg (by simp) (Ev.now _)
theorem good7_ev (l1 : List S32) (n : Nat) (hn : n ≤ 100) : ∃ r, Ev (fun k => scribelaw07_Good.f k l1 (n : Int)) r ∧ r.length ≤ n ∧ ∀ x ∈ r, okCl (cl x) :=
  good_loop l1 n hn n 0 [] (by omega) (by omega) (by simp) (fun x hx => by simp at hx)
theorem print_some (l : List UInt8) (r : List S32) (hl : l.length ≤ 100000) (hr : ∀ x ∈ r, okCl (cl x)) : format_Print.f (B l) r = some (B (printS l (r.map cl) []).1, (printS l (r.map cl) []).2) := by
  unfold format_Print.f
  rw [if_pos (by rw [B_size]; exact hl), if_pos (show okAll r = true from List.all_eq_true.2 fun x hx => decide_eq_true (hr x hx))]
  rfl
theorem awake7_ev : Ev (fun k => scribelaw07_awake.f k) true := Ev.of (fun k => scribelaw07_awake.mono k) (k := 60) (by decide +kernel)

end Go.Proofs.YtmobbclpfbkkkaaDoor.Pr
