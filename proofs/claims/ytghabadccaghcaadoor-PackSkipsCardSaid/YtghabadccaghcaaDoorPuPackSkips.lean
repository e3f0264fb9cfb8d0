/- What is skipped is what would be taken: the pure statement. -/
import Derived.Test.YtghabadccaghcaaDoorPuPkR
import Derived.Test.YtghabadccaghcaaDoorPuPkC
import Derived.Test.YtghabadccaghcaaDoorPuPkAwake
import Derived.Test.YtghabadccaghcaaDoorPr9
import Derived.Test.YtghabadccaghcaaDoorPr28
namespace Go.Proofs.YtghabadccaghcaaDoor.Pr
open Go Go.RowKit Go.Proofs.YtghabadccaghcaaDoorW.PrintWords Go.Proofs.YtghabadccaghcaaDoorW.PrintLast Go.Proofs.YtghabadccaghcaaDoorW.PrintMore

/-- a number or a text that stands here, skipped -/
theorem skip_int (l : List UInt8) (hl : l.length ≤ 1000000) (d : Int) (p : Nat) (hp : p ≤ l.length) (n : Int) (hn : i64 n) (r : List UInt8) (h : l.drop p = intL n ++ r) :
    Ev (fun k => pack_Reader_Skip.f k (B l) (p : Int) d 0) (B l, ((p + (intL n).length : Nat) : Int), d, 0) := by
  have hi := int_ev l (by omega) d p hp
  rw [h, int_fwd n hn r] at hi
  have h' : l.drop p = 105 :: (Lib.itoa n ++ [59] ++ r) := h
  obtain ⟨hb, hlt, _⟩ := bt_drop h'
  refine Ev.succ ?_
  simp only [pack_Reader_Skip.f]
  refine Ev.pos (by trivial) (Ev.neg (by rw [B_size]; omega) (Ev.pos (by omega) (Ev.pos (by rw [B_size]; omega) ?_)))
  rw [hb]
  refine Ev.pos (by rfl) (Ev.bind' hi ?_)
  exact Ev.now _
theorem skip_text (l : List UInt8) (hl : l.length ≤ 1000000) (d : Int) (p : Nat) (hp : p ≤ l.length) (s r : List UInt8) (h : l.drop p = textL s ++ r) :
    Ev (fun k => pack_Reader_Skip.f k (B l) (p : Int) d 0) (B l, ((p + (textL s).length : Nat) : Int), d, 0) := by
  have hlen := congrArg List.length h
  rw [List.length_drop, List.length_append] at hlen
  have hts : (textL s).length = (Lib.decDigits s.length).length + 1 + s.length := by unfold textL; simp only [List.length_append, List.length_cons]; omega
  have hi := text_ev l (by omega) d p hp (l.length : Int) (by omega)
  rw [h, text_fwd _ _ _ (by omega) (by omega)] at hi
  obtain ⟨c, q, hc⟩ : ∃ c q, Lib.decDigits s.length = c :: q := by
    have := dec_len s.length
    cases hd : Lib.decDigits s.length with
    | nil => rw [hd] at this; simp at this
    | cons c q => exact ⟨c, q, rfl⟩
  have hdig := (isDig_iff c).1 (dec_dig s.length c (by rw [hc]; simp))
  have h' : l.drop p = c :: (q ++ 58 :: s ++ r) := by rw [h]; unfold textL; rw [hc]; rfl
  obtain ⟨hb, hlt, _⟩ := bt_drop h'
  refine Ev.succ ?_
  simp only [pack_Reader_Skip.f]
  refine Ev.pos (by trivial) (Ev.neg (by rw [B_size]; omega) (Ev.pos (by omega) (Ev.pos (by rw [B_size]; omega) ?_)))
  rw [hb]
  refine Ev.neg (by omega) (Ev.neg (by omega) ?_)
  rw [B_size]
  refine Ev.bind' hi ?_
  exact Ev.now _
/-- a number or a text -/
def nt (x : S28) : Bool := decide (x.f0 = 1 ∨ x.f0 = 2)
theorem skips_l1 (l : List UInt8) (hl : l.length ≤ 100000) (bs : List Bool) (ins : List S28) (hin : ins.length ≤ 1000) (rest : List S28) : ∀ j p, ins.drop j = rest → (∀ x ∈ rest, okT x ∧ nt x = true) →
    l.drop p = rest.flatMap putL → p ≤ l.length → j ≤ ins.length →
    Ev (fun k => scribelaw01_PackSkips.l1 k bs ins (ins.length : Int) (j : Int) (B l) (p : Int) 0 0) true := by
  induction rest with
  | nil =>
    intro j p hj hg hp hpl hjl
    have hlen : ins.length ≤ j := by
      have := congrArg List.length hj
      rw [List.length_drop, List.length_nil] at this
      omega
    have hll := drop_nil (l := l) (i := p) (by simpa using hp)
    have hd := done_0 l p 0
    rw [if_pos ⟨hll, Int.le_refl _⟩] at hd
    refine Ev.succ ?_
    simp only [scribelaw01_PackSkips.l1]
    refine Ev.neg (by omega) (Ev.bindc (a := true) rfl (Ev.pos rfl (Ev.bindc hd ?_)))
    exact Ev.const rfl
  | cons x rest ih =>
    intro j p hj hg hp hpl hjl
    have hlt : j < ins.length := by
      have := congrArg List.length hj
      rw [List.length_drop, List.length_cons] at this
      omega
    have hx : ins[j] = x := by
      rw [List.drop_eq_getElem_cons hlt] at hj
      exact (List.cons.inj hj).1
    have hj2 : ins.drop (j + 1) = rest := by
      rw [List.drop_eq_getElem_cons hlt] at hj
      exact (List.cons.inj hj).2
    obtain ⟨hT, hn⟩ := hg x (by simp)
    have hn' : x.f0 = 1 ∨ x.f0 = 2 := of_decide_eq_true hn
    rw [List.flatMap_cons] at hp
    have next : Ev (fun k => scribelaw01_PackSkips.l1 k bs ins (ins.length : Int) (wrap64 ((j : Int) + 1)) (B l) ((p + (putL x).length : Nat) : Int) 0 0) true := by
      have hlp : (l.drop p).length = (putL x).length + (rest.flatMap putL).length := by rw [hp, List.length_append]
      rw [List.length_drop] at hlp
      rw [w64 (by omega) (by omega)]
      refine ih (j + 1) (p + (putL x).length) hj2 (fun y hy => hg y (by simp [hy])) ?_ (by omega) (by omega)
      rw [← List.drop_drop, hp, List.drop_left]
    have j2 : ∀ b : Bool, Ev (fun k => scribelaw01_PackSkips.j2 k bs ins (ins.length : Int) (j : Int) b (B l) (p : Int) 0 0 x.f0 x.f1 x.f2) true := by
      intro b
      refine Ev.succ ?_
      simp only [scribelaw01_PackSkips.j2]
      rcases hn' with c1 | c2
      · have e : putL x = intL x.f1 := by unfold putL; rw [if_pos c1]
        rw [e] at hp next
        cases b with
        | true => exact Ev.pos (by rfl) (Ev.bind' (skip_int l (by omega) 0 p hpl x.f1 hT.1 _ hp) next)
        | false =>
          refine Ev.neg (by simp) (Ev.pos c1 ?_)
          have hi := int_ev l (by omega) 0 p hpl
          rw [hp, int_fwd _ hT.1] at hi
          refine Ev.bind' hi (Ev.pos rfl (Ev.neg (by omega) ?_))
          exact next
      · have c1 : ¬ x.f0 = 1 := by omega
        have e : putL x = textL x.f2.data.toList := by unfold putL; rw [if_neg c1, if_pos c2]
        rw [e] at hp next
        have hsz : x.f2.data.toList.length = x.f2.size := Array.length_toList
        have h200 := hT.2
        cases b with
        | true => exact Ev.pos (by rfl) (Ev.bind' (skip_text l (by omega) 0 p hpl _ _ hp) next)
        | false =>
          refine Ev.neg (by simp) (Ev.neg c1 (Ev.pos c2 ?_))
          have hi := text_ev l (by omega) 0 p hpl 200 (by omega)
          rw [hp, text_fwd _ _ _ (by omega) (by omega)] at hi
          refine Ev.bind' hi (Ev.pos (by rw [B_eta]) ?_)
          exact next
    refine Ev.succ ?_
    simp only [scribelaw01_PackSkips.l1]
    refine Ev.pos (by omega) (Ev.pos (by omega) (Ev.pos (by omega) ?_))
    rw [rdT_get ins j hlt, hx]
    by_cases hb : (j : Int) < (bs.length : Int)
    · exact Ev.pos hb (j2 _)
    · exact Ev.neg hb (j2 _)
theorem flat_len' (l : List S28) (h : ∀ x ∈ l, okT x ∧ nt x = true) : (l.flatMap putL).length ≤ 250 * l.length := by
  induction l with
  | nil => simp
  | cons x r ih =>
    have h1 := putL_len x (h x (by simp)).1
    have h2 := ih (fun y hy => h y (by simp [hy]))
    rw [List.flatMap_cons, List.length_append, List.length_cons]
    omega
theorem skips_l0 (bs : List Bool) (t : List S28) (ht : t.length ≤ 20) (hok : ∀ x ∈ t, okT x) (c : Nat) : ∀ (i : Nat) (ins : List S28), i + c = t.length → ins.length ≤ i → (∀ x ∈ ins, okT x ∧ nt x = true) →
    Ev (fun k => scribelaw01_PackSkips.l0 k bs ins t (t.length : Int) (i : Int) (B (ins.flatMap putL))) true := by
  induction c with
  | zero =>
    intro i ins hi hle hg
    have hfl := flat_len' ins hg
    refine Ev.succ ?_
    simp only [scribelaw01_PackSkips.l0]
    refine Ev.neg (by omega) (Ev.bindc (wBytes _ (by omega)) ?_)
    dsimp only
    refine Ev.bindc (g := pack_Read.f (B (ins.flatMap putL))) (a := (B (ins.flatMap putL), 0, 0, 0)) rfl ?_
    exact skips_l1 _ (by omega) bs ins (by omega) ins 0 0 rfl hg rfl (by omega) (by omega)
  | succ c ih =>
    intro i ins hi hle hg
    have hlt : i < t.length := by omega
    have hx := hok t[i] (List.getElem_mem hlt)
    have hfl := flat_len' ins hg
    have hw : wrap64 ((i : Int) + 1) = ((i + 1 : Nat) : Int) := by rw [w64 (by omega) (by omega)]; omega
    have take : nt t[i] = true → Ev (fun k => (scribelaw01_put.f k (B (ins.flatMap putL)) t[i].f0 t[i].f1 t[i].f2).bind fun bt => scribelaw01_PackSkips.l0 k bs (ins ++ [(⟨t[i].f0, t[i].f1, t[i].f2⟩ : S28)]) t (t.length : Int) ((i + 1 : Nat) : Int) bt.2) true := by
      intro hn
      have hi2 := ih (i + 1) (ins ++ [t[i]]) (by omega) (by rw [List.length_append]; simp; omega) (fun x hx' => by
        rcases List.mem_append.1 hx' with h | h
        · exact hg x h
        · rw [List.mem_singleton] at h; subst h; exact ⟨hx, hn⟩)
      rw [List.flatMap_append, List.flatMap_singleton] at hi2
      exact Ev.bind' (put_ev (ins.flatMap putL) t[i] hx (by omega)) hi2
    refine Ev.succ ?_
    simp only [scribelaw01_PackSkips.l0]
    rw [hw]
    refine Ev.pos (by omega) (Ev.pos (by omega) (Ev.pos (by omega) ?_))
    rw [rdT_get t i hlt]
    by_cases c1 : t[i].f0 = 1
    · exact Ev.pos c1 (Ev.pos (by omega) (take (decide_eq_true (.inl c1))))
    · refine Ev.neg c1 ?_
      by_cases c2 : t[i].f0 = 2
      · exact Ev.pos c2 (Ev.pos (by omega) (take (decide_eq_true (.inr c2))))
      · exact Ev.neg c2 (ih (i + 1) ins (by omega) (by omega) hg)
theorem PackSkips_ev (l0 : List S28) (l1 : List Bool) (w0 : ∀ (q : Nat) (x : S28), l0[q]? = some x → (Lit.int .i64 x.f0).wf = true ∧ (Lit.int .i64 x.f1).wf = true ∧ True) : Ev (fun k => scribelaw01_PackSkips.f k l0 l1) true := by
  unfold scribelaw01_PackSkips.f
  refine Ev.bind' (few_ev l0 20 (by omega)) ?_
  refine skips_l0 l1 _ (by rw [List.length_map, List.length_take]; omega) ?_ ((l0.take 20).map cutT).length 0 [] (by omega) (by simp) (by simp)
  intro x hx
  obtain ⟨y, hy, rfl⟩ := List.mem_map.1 hx
  have := List.mem_of_mem_take hy
  obtain ⟨q, hq⟩ := List.mem_iff_getElem?.1 this
  exact cutT_ok y (of_wf (w0 q y hq).2.1)
end Go.Proofs.YtghabadccaghcaaDoor.Pr
