/- What is written is read again: the pure statement. -/
import Derived.Test.YtghabadccaghcaaDoorPuPkR
import Derived.Test.YtghabadccaghcaaDoorPuPkC
import Derived.Test.YtghabadccaghcaaDoorPuPkAwake
import Derived.Test.YtghabadccaghcaaDoorPr27
namespace Go.Proofs.YtghabadccaghcaaDoor.Pr
open Go Go.RowKit Go.Proofs.YtghabadccaghcaaDoorW.PrintWords Go.Proofs.YtghabadccaghcaaDoorW.PrintLast Go.Proofs.YtghabadccaghcaaDoorW.PrintMore

def depB (d : Nat) (x : S28) : Nat := if x.f0 = 3 then d + 1 else if x.f0 = 4 then d - 1 else d
def okB (d : Nat) (x : S28) : Prop := 1 ≤ x.f0 ∧ x.f0 ≤ 4 ∧ (x.f0 = 3 → d < 60) ∧ (x.f0 = 4 → 1 ≤ d)
def goodB : Nat → List S28 → Prop
  | _, [] => True
  | d, x :: r => okB d x ∧ okT x ∧ goodB (depB d x) r
def endB : Nat → List S28 → Nat
  | d, [] => d
  | d, x :: r => endB (depB d x) r
theorem goodB_snoc (l : List S28) (x : S28) : ∀ d, goodB d l → okB (endB d l) x → okT x → goodB d (l ++ [x]) := by
  induction l with
  | nil => intro d _ h1 h2; exact ⟨h1, h2, trivial⟩
  | cons y r ih => intro d h h1 h2; exact ⟨h.1, h.2.1, ih _ h.2.2 h1 h2⟩
theorem endB_snoc (l : List S28) (x : S28) : ∀ d, endB d (l ++ [x]) = depB (endB d l) x := by
  induction l with
  | nil => intro d; rfl
  | cons y r ih => intro d; exact ih _
theorem endB_le (l : List S28) : ∀ d, endB d l ≤ d + l.length := by
  induction l with
  | nil => intro d; simp [endB]
  | cons y r ih =>
    intro d
    have := ih (depB d y)
    have h : depB d y ≤ d + 1 := by unfold depB; split <;> (try split) <;> omega
    simp only [endB, List.length_cons]
    omega

theorem flat_len (l : List S28) (h : ∀ x ∈ l, okT x) : (l.flatMap putL).length ≤ 250 * l.length := by
  induction l with
  | nil => simp
  | cons x r ih =>
    have h1 := putL_len x (h x (by simp))
    have h2 := ih (fun y hy => h y (by simp [hy]))
    rw [List.flatMap_cons, List.length_append, List.length_cons]
    omega
theorem goodB_ok (l : List S28) : ∀ d, goodB d l → ∀ x ∈ l, okT x := by
  induction l with
  | nil => intro d _ x hx; simp at hx
  | cons y r ih =>
    intro d h x hx
    rcases List.mem_cons.1 hx with rfl | hx
    · exact h.2.1
    · exact ih _ h.2.2 x hx

theorem back_l3 (l : List UInt8) (hl : l.length ≤ 100000) (n : Nat) (hn : n ≤ 1000) (e : Nat) : ∀ j p, j + e = n → l.drop p = List.replicate e 41 → p ≤ l.length →
    Ev (fun k => scribelaw01_PackBack.l3 k (n : Int) (j : Int) (B l) (p : Int) (e : Int) 0) true := by
  induction e with
  | zero =>
    intro j p hj hp hpl
    have hlen := drop_nil (l := l) (i := p) (by simpa using hp)
    refine Ev.succ ?_
    simp only [scribelaw01_PackBack.l3]
    have hd := done_0 l p 0
    rw [if_pos ⟨hlen, Int.le_refl _⟩] at hd
    refine Ev.neg (by omega) (Ev.bindc (a := true) rfl (Ev.pos rfl (Ev.bindc hd ?_)))
    exact Ev.const rfl
  | succ e ih =>
    intro j p hj hp hpl
    have hc := close_ev l (by omega) (e + 1) p (by omega)
    rw [hp, List.replicate_succ] at hc
    unfold closeS at hc
    rw [if_neg (by omega)] at hc
    simp only [if_true] at hc
    rw [List.replicate_succ] at hp
    obtain ⟨_, hlt, hr⟩ := bt_drop hp
    refine Ev.succ ?_
    simp only [scribelaw01_PackBack.l3]
    refine Ev.pos (by omega) (Ev.bind' hc ?_)
    rw [w64 (by omega) (by omega)]
    exact ih (j + 1) (p + 1) (by omega) hr (by omega)
theorem back_l2 (l : List UInt8) (hl : l.length ≤ 100000) (n : Nat) (hn : n ≤ 1000) (ins : List S28) (hin : ins.length ≤ 1000) (rest : List S28) : ∀ j p d, ins.drop j = rest → goodB d rest → endB d rest = n → d ≤ 1000 →
    l.drop p = rest.flatMap putL ++ List.replicate n 41 → p ≤ l.length → j ≤ ins.length →
    Ev (fun k => scribelaw01_PackBack.l2 k (n : Int) ins (ins.length : Int) (j : Int) (B l) (p : Int) (d : Int) 0) true := by
  induction rest with
  | nil =>
    intro j p d hj hg he hd hp hpl hjl
    have hlen : ins.length ≤ j := by
      have := congrArg List.length hj
      rw [List.length_drop, List.length_nil] at this
      omega
    obtain rfl : d = n := he
    refine Ev.succ ?_
    simp only [scribelaw01_PackBack.l2]
    refine Ev.neg (by omega) ?_
    exact back_l3 l hl d hn d 0 p (by omega) (by simpa using hp) hpl
  | cons x rest ih =>
    intro j p d hj hg he hd hp hpl hjl
    have hlt : j < ins.length := by
      have := congrArg List.length hj
      rw [List.length_drop, List.length_cons] at this
      omega
    have hx : ins[j] = x := by
      rw [List.drop_eq_getElem_cons hlt] at hj
      exact (List.cons.inj hj).1
    have hj2 : ins.drop (j + 1) = rest := by
      rw [List.drop_eq_getElem_cons hlt] at hj
      exact (List.cons.inj hj).2
    obtain ⟨hok, hT, hg2⟩ := hg
    obtain ⟨k1, k4, k3, k44⟩ := hok
    rw [List.flatMap_cons, List.append_assoc] at hp
    have next : ∀ m d', m = (putL x).length → depB d x = d' → Ev (fun k => scribelaw01_PackBack.l2 k (n : Int) ins (ins.length : Int) (wrap64 ((j : Int) + 1)) (B l) ((p + m : Nat) : Int) (d' : Int) 0) true := by
      intro m d' hm hd'
      have hlp : (l.drop p).length = m + (rest.flatMap putL ++ List.replicate n 41).length := by rw [hp, List.length_append, hm]
      rw [List.length_drop] at hlp
      rw [w64 (by omega) (by omega)]
      have hd1 : d' ≤ 60 ∨ d' ≤ d := by
        rw [← hd']
        unfold depB
        by_cases c3 : x.f0 = 3
        · have := k3 c3; rw [if_pos c3]; omega
        · rw [if_neg c3]; by_cases c4 : x.f0 = 4
          · rw [if_pos c4]; omega
          · rw [if_neg c4]; omega
      refine ih (j + 1) (p + m) d' hj2 (hd' ▸ hg2) (hd' ▸ he) (by omega) ?_ (by omega) (by omega)
      rw [← List.drop_drop, hp, hm, List.drop_left]
    refine Ev.succ ?_
    simp only [scribelaw01_PackBack.l2]
    refine Ev.pos (by omega) (Ev.pos (by omega) (Ev.pos (by omega) ?_))
    rw [rdT_get ins j hlt, hx]
    by_cases c1 : x.f0 = 1
    · have e : putL x = intL x.f1 := by unfold putL; rw [if_pos c1]
      refine Ev.pos c1 ?_
      have hi := int_ev l (by omega) (d : Int) p hpl
      rw [hp, e, int_fwd _ hT.1] at hi
      refine Ev.bind' hi ?_
      dsimp only
      refine Ev.pos rfl ?_
      have := next (putL x).length d rfl (by unfold depB; rw [if_neg (by omega), if_neg (by omega)])
      rw [e] at this
      exact this
    · refine Ev.neg c1 ?_
      by_cases c2 : x.f0 = 2
      · have e : putL x = textL x.f2.data.toList := by unfold putL; rw [if_neg c1, if_pos c2]
        have hsz : x.f2.data.toList.length = x.f2.size := Array.length_toList
        have h200 := hT.2
        refine Ev.pos c2 ?_
        have hi := text_ev l (by omega) (d : Int) p hpl (x.f2.size : Int) (by omega)
        rw [hp, e, text_fwd _ _ _ (by omega) (by omega)] at hi
        refine Ev.bind' hi ?_
        dsimp only
        refine Ev.pos (by rw [B_eta]) ?_
        have := next (putL x).length d rfl (by unfold depB; rw [if_neg (by omega), if_neg (by omega)])
        rw [e] at this
        exact this
      · refine Ev.neg c2 ?_
        by_cases c3 : x.f0 = 3
        · have e : putL x = [40] := by unfold putL; rw [if_neg c1, if_neg c2, if_pos c3]
          refine Ev.pos c3 ?_
          have hi := open_ev l (by omega) d p (by omega)
          rw [hp, e] at hi
          unfold openS at hi
          rw [if_neg (by have := k3 c3; omega)] at hi
          simp only [List.cons_append, if_true] at hi
          refine Ev.bind' hi ?_
          have := next 1 (d + 1) (by rw [e]; rfl) (by unfold depB; rw [if_pos c3])
          exact this
        · refine Ev.neg c3 ?_
          have c4 : x.f0 = 4 := by omega
          have e : putL x = [41] := by unfold putL; rw [if_neg c1, if_neg c2, if_neg c3, if_pos c4]
          refine Ev.pos c4 ?_
          have hi := close_ev l (by omega) d p (by omega)
          rw [hp, e] at hi
          unfold closeS at hi
          rw [if_neg (by have := k44 c4; omega)] at hi
          simp only [List.cons_append, if_true] at hi
          refine Ev.bind' hi ?_
          have := next 1 (d - 1) (by rw [e]; rfl) (by unfold depB; rw [if_neg c3, if_pos c4])
          exact this
theorem back_l1 (ins : List S28) (hin : ins.length ≤ 40) (n : Nat) (hn : n ≤ 1000) (hg : goodB 0 ins) (he : endB 0 ins = n) (c : Nat) : ∀ j, j + c = n →
    Ev (fun k => scribelaw01_PackBack.l1 k ins (n : Int) (j : Int) (B (ins.flatMap putL ++ List.replicate j 41))) true := by
  have hfl := flat_len ins (goodB_ok ins 0 hg)
  induction c with
  | zero =>
    intro j hj
    obtain rfl : j = n := by omega
    refine Ev.succ ?_
    simp only [scribelaw01_PackBack.l1]
    have hL : (ins.flatMap putL ++ List.replicate j 41).length ≤ 100000 := by rw [List.length_append, List.length_replicate]; omega
    refine Ev.neg (by omega) (Ev.bindc (wBytes _ (by omega)) ?_)
    dsimp only
    refine Ev.bindc (g := pack_Read.f (B (ins.flatMap putL ++ List.replicate j 41))) (a := (B (ins.flatMap putL ++ List.replicate j 41), 0, 0, 0)) rfl ?_
    exact back_l2 _ hL j hn ins (by omega) ins 0 0 0 rfl hg he (by omega) rfl (by omega) (by omega)
  | succ c ih =>
    intro j hj
    refine Ev.succ ?_
    simp only [scribelaw01_PackBack.l1]
    refine Ev.pos (by omega) (Ev.bindc (wClose _ (by rw [List.length_append, List.length_replicate]; omega)) ?_)
    rw [w64 (by omega) (by omega), List.append_assoc, show List.replicate j (41 : UInt8) ++ [41] = List.replicate (j + 1) 41 from List.replicate_succ'.symm]
    exact ih (j + 1) (by omega)
theorem back_l0 (t : List S28) (ht : t.length ≤ 40) (hok : ∀ x ∈ t, okT x) (c : Nat) : ∀ (i : Nat) (ins : List S28), i + c = t.length → ins.length ≤ i → goodB 0 ins →
    Ev (fun k => scribelaw01_PackBack.l0 k ins ((endB 0 ins : Nat) : Int) t (t.length : Int) (i : Int) (B (ins.flatMap putL))) true := by
  induction c with
  | zero =>
    intro i ins hi hle hg
    refine Ev.succ ?_
    simp only [scribelaw01_PackBack.l0]
    refine Ev.neg (by omega) ?_
    have := back_l1 ins (by omega) (endB 0 ins) (by have := endB_le ins 0; omega) hg rfl (endB 0 ins) 0 (by omega)
    rw [List.replicate_zero, List.append_nil] at this
    exact this
  | succ c ih =>
    intro i ins hi hle hg
    have hlt : i < t.length := by omega
    have hx := hok t[i] (List.getElem_mem hlt)
    have hend := endB_le ins 0
    have hfl := flat_len ins (goodB_ok ins 0 hg)
    generalize hd : endB 0 ins = d at hend
    have skip : Ev (fun k => scribelaw01_PackBack.j1 k ins (d : Int) t (t.length : Int) (i : Int) true (B (ins.flatMap putL)) t[i].f0 t[i].f1 t[i].f2) true := by
      refine Ev.succ ?_
      simp only [scribelaw01_PackBack.j1]
      refine Ev.pos (by trivial) ?_
      rw [w64 (by omega) (by omega), ← hd]
      exact ih (i + 1) ins (by omega) (by omega) hg
    have take : okB d t[i] → Ev (fun k => scribelaw01_PackBack.j1 k ins (d : Int) t (t.length : Int) (i : Int) false (B (ins.flatMap putL)) t[i].f0 t[i].f1 t[i].f2) true := by
      intro hB
      have hp := put_ev (ins.flatMap putL) t[i] hx (by omega)
      have hi2 := ih (i + 1) (ins ++ [t[i]]) (by omega) (by rw [List.length_append]; simp; omega) (goodB_snoc ins _ 0 hg (by rw [hd]; exact hB) hx)
      rw [endB_snoc, hd, List.flatMap_append, List.flatMap_singleton] at hi2
      have hw : wrap64 ((i : Int) + 1) = ((i + 1 : Nat) : Int) := by rw [w64 (by omega) (by omega)]; omega
      refine Ev.succ ?_
      simp only [scribelaw01_PackBack.j1]
      rw [hw]
      refine Ev.neg (by simp) ?_
      by_cases c3 : t[i].f0 = 3
      · refine Ev.pos c3 (Ev.neg (by omega) (Ev.pos (by omega) (Ev.bind' hp ?_)))
        have e : wrap64 ((d : Int) + 1) = ((depB d t[i] : Nat) : Int) := by unfold depB; rw [if_pos c3, w64 (by omega) (by omega)]; omega
        rw [e]
        exact hi2
      · refine Ev.neg c3 ?_
        by_cases c4 : t[i].f0 = 4
        · refine Ev.pos c4 (Ev.pos (by omega) (Ev.bind' hp ?_))
          have := hB.2.2.2 c4
          have e : wrap64 ((d : Int) - 1) = ((depB d t[i] : Nat) : Int) := by unfold depB; rw [if_neg c3, if_pos c4, w64 (by omega) (by omega)]; omega
          rw [e]
          exact hi2
        · refine Ev.neg c4 (Ev.pos (by omega) (Ev.bind' hp ?_))
          have e : depB d t[i] = d := by unfold depB; rw [if_neg c3, if_neg c4]
          rw [e] at hi2
          exact hi2
    have rest : (t[i].f0 = 3 → d < 60) → (t[i].f0 = 4 → 1 ≤ d) → ¬ t[i].f0 < 1 → Ev (fun k => scribelaw01_PackBack.j1 k ins (d : Int) t (t.length : Int) (i : Int) (decide (t[i].f0 > 4)) (B (ins.flatMap putL)) t[i].f0 t[i].f1 t[i].f2) true := by
      intro h3 h4 h1
      by_cases h5 : t[i].f0 > 4
      · rw [decide_eq_true h5]; exact skip
      · rw [decide_eq_false h5]; exact take ⟨by omega, by omega, h3, h4⟩
    refine Ev.succ ?_
    simp only [scribelaw01_PackBack.l0]
    refine Ev.pos (by omega) (Ev.pos (by omega) (Ev.pos (by omega) ?_))
    rw [rdT_get t i hlt]
    by_cases c3 : t[i].f0 = 3
    · refine Ev.pos c3 ?_
      by_cases h60 : 60 ≤ d
      · exact Ev.pos (by omega) skip
      · refine Ev.neg (by omega) (Ev.neg (by omega) (Ev.neg (by omega) ?_))
        exact rest (by omega) (by omega) (by omega)
    · refine Ev.neg c3 ?_
      by_cases c4 : t[i].f0 = 4
      · refine Ev.pos c4 ?_
        by_cases h0 : d = 0
        · exact Ev.pos (by omega) skip
        · refine Ev.neg (by omega) (Ev.neg (by omega) ?_)
          exact rest (by omega) (by omega) (by omega)
      · refine Ev.neg c4 ?_
        by_cases h1 : t[i].f0 < 1
        · exact Ev.pos h1 skip
        · exact Ev.neg h1 (rest (by omega) (by omega) h1)
theorem PackBack_ev (l0 : List S28) (w0 : ∀ (q : Nat) (x : S28), l0[q]? = some x → (Lit.int .i64 x.f0).wf = true ∧ (Lit.int .i64 x.f1).wf = true ∧ True) : Ev (fun k => scribelaw01_PackBack.f k l0) true := by
  unfold scribelaw01_PackBack.f
  refine Ev.bind' (few_ev l0 40 (by omega)) ?_
  refine back_l0 _ (by rw [List.length_map, List.length_take]; omega) ?_ ((l0.take 40).map cutT).length 0 [] (by omega) (by simp) trivial
  intro x hx
  obtain ⟨y, hy, rfl⟩ := List.mem_map.1 hx
  have := List.mem_of_mem_take hy
  obtain ⟨q, hq⟩ := List.mem_iff_getElem?.1 this
  exact cutT_ok y (of_wf (w0 q y hq).2.1)
end Go.Proofs.YtghabadccaghcaaDoor.Pr
