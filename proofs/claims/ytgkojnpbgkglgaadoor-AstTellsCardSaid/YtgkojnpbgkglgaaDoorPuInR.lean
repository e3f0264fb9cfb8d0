/- A region that draws its order, in a round of a range over a function: the words start_, take_, one_ .. serve there too. -/
import Derived.Test.YtgkojnpbgkglgaaDoorPuAsW
namespace Go.Proofs.YtgkojnpbgkglgaaDoor.Pr
open Go Go.RowKit Go.Proofs.YtgkojnpbgkglgaaDoorW.PrintWords Go.Proofs.YtgkojnpbgkglgaaDoorW.PrintLast Go.Proofs.YtgkojnpbgkglgaaDoorW.PrintMore

def calmOp (o : Oper) : Bool := match o.op with
  | .defer _ => false
  | _ => true
theorem calmOp_spec {ops : Array Oper} (h : ops.all calmOp = true) : ∀ o ∈ ops, ∀ c, o.op ≠ .defer c := by
  intro o ho c e
  have := (Array.all_eq_true_iff_forall_mem.1 h) o ho
  simp [calmOp, e] at this
theorem wpAny_round {P : Program} {md : Region.Mode} {ops : Array Oper} {Q : Exit → Act → World → Prop} (l n : Nat) (hQ : ¬ LetsOut Q) (hD : ∀ o ∈ ops, ∀ c, o.op ≠ .defer c) :
    ∀ (fuel : Nat) (listed : Array Bool) (a : Act) (w : World), wpAny P md ops Q fuel listed a w → wpAnyIn (Fence.wide.inRound l) n P md ops Q fuel listed a w := by
  intro fuel
  induction fuel with
  | zero => intro listed a w h; exact h
  | succ fuel ih =>
    intro listed a w h
    refine ⟨h.1, fun i hi => ?_⟩
    have h2 := h.2 i hi
    unfold wpOp at h2
    unfold wpOpIn
    cases ho : ops[i]? with
    | none => rw [ho] at h2; exact ih _ _ _ h2
    | some o =>
      rw [ho] at h2
      simp only at h2 ⊢
      split
      · rename_i hw
        rw [if_pos hw] at h2
        rcases h2 with h2 | h2
        · refine ⟨fun _ _ => trivial, ?_⟩
          rw [Fence.inRound_round, Oper.semAt_some l _ _ (hD o (Array.mem_of_getElem? ho))]
          unfold Oper.wp at h2
          generalize (execOp a.eval o).run P w = r at h2
          cases r with
          | ok x w' =>
            cases x with
            | value v => exact ih _ _ _ h2
            | skip => exact ih _ _ _ h2
            | defer d => exact ih _ _ _ h2
            | enter f args =>
              refine ⟨fun h => by simp [Fence.wide] at h, ?_⟩
              refine CallsIn.inRound l (callsIn_wide.2 (Calls.mono h2 ?_))
              intro e w'' he
              cases e with
              | returned v => exact ih _ _ _ he
              | panicked c => exact he
              | outgrown => exact (hQ he).elim
            | row r args => exact ⟨fun h => by simp [Fence.wide] at h, fun c cs _ => let ⟨v, w'', r, s⟩ := h2 c cs; ⟨v, w'', ih _ _ _ r, stepsIn_wide.2 s⟩⟩
            | _ => exact False.elim h2
          | halt hh w' => cases hh <;> first | exact h2 | exact False.elim h2
        · exact (hQ h2.2).elim
      · rename_i hw
        rw [if_neg hw] at h2
        exact ⟨fun _ _ => trivial, ih _ _ _ h2⟩
/-- start_ in a round -/
theorem start_in {P : Program} {ops : Array Oper} {Q : Exit → Act → World → Prop} {S : World → Prop} {ds : List Nat} {id n : Nat} {a : Act} {w : World} (rl m : Nat) (l : Array Bool) (hm : P.follows .mixedOrders = true) (hn : ops.size = n) (hl : Array.replicate n false = l) (hS : S w.drew) (hQ : ¬ LetsOut Q) (hD : ops.all calmOp = true)
    (h : S w.drew → wpAnyLast P .any ops Q S ds n l a w.drew) : (Code.region id ops true).wpIn (Fence.wide.inRound rl) m P Q a w := by
  subst hn
  subst hl
  exact wpIn_region_any hm (wpAny_round rl m hQ (calmOp_spec hD) _ _ _ _ (wpAny_of_last _ _ _ _ (h hS)))
end Go.Proofs.YtgkojnpbgkglgaaDoor.Pr
