/- regex: what a part's kind tells of it. -/
import Derived.Test.YthlffghlkggimaaPuRxK
namespace Go.Proofs.Ythlffghlkggimaa.Pr
open Go Go.RowKit Go.Proofs.YthlffghlkggimaaW.PrintWords Go.Proofs.YthlffghlkggimaaW.PrintLast Go.Proofs.YthlffghlkggimaaW.PrintMore
theorem opOf_in {c op : Int} (h : opOf c = some op) : op = 4 ∨ op = 5 ∨ op = 6 := by
 unfold opOf at h
 split at h
 ·cases h; simp
 ·split at h
  ·cases h; simp
  ·split at h
   ·cases h; simp
   ·cases h
theorem signs_inv {t : ByteArray} {n m : RNode} {s s' : St} (h : R t (.signs n) s m s') : (m = n ∧ s' = s ∧ ∃ o, Nx t s o ∧ ∀ c, o = some c → opOf c = none) ∨ m.f0 = 4 ∨ m.f0 = 5 ∨ m.f0 = 6 := by
 generalize hcl : Cl.signs n = cl at h
 induction h generalizing n with
 | signsMore hx ho hs is =>
  cases hcl
  rcases is rfl with ⟨rfl, _⟩ | h
  ·exact .inr (opOf_in ho)
  ·exact .inr h
 | signsEnd hx ho => cases hcl; exact .inl ⟨rfl, rfl, _, hx, ho⟩
 | _ => cases hcl
theorem cat_two {t : ByteArray} {acc : List RNode} {r : RNode} {s s' : St} (h : R t (.cat acc) s r s') (hl : 2 ≤ acc.length) : r.f0 = 2 := by
 have two : ∀ l : List RNode, 2 ≤ l.length → (catN l).f0 = 2 := fun l h => match l, h with
  | _ :: _ :: _, _ => rfl
 generalize hcl : Cl.cat acc = cl at h
 induction h generalizing acc with
 | catEnd => cases hcl; exact two _ hl
 | catBad => cases hcl; exact two _ hl
 | catMore hx h1 h2 hll ha hs hc ia is ic => cases hcl; exact ic (by rw [List.length_append]; omega) rfl
 | _ => cases hcl
theorem altL_two {t : ByteArray} {acc : List RNode} {r : RNode} {s s' : St} (h : R t (.altL acc) s r s') (hl : 2 ≤ acc.length) : r.f0 = 3 := by
 have two : ∀ l : List RNode, 2 ≤ l.length → (altN l).f0 = 3 := fun l h => match l, h with
  | _ :: _ :: _, _ => rfl
 generalize hcl : Cl.altL acc = cl at h
 induction h generalizing acc with
 | altEnd => cases hcl; exact two _ hl
 | altMore hx hll hc ha ic ia => cases hcl; exact ia (by rw [List.length_append]; simp only [List.length_cons, List.length_nil]; omega) rfl
 | _ => cases hcl
theorem set_only {t : ByteArray} {n : RNode} {s s' : St} (hx : Nx t s (some 91)) (h : R t .alt s n s') (he : s'.e = 0) (h1 : n.f0 = 1) :
  ∃ w, SetR t s.go w s' ∧ n = ⟨1, w, []⟩ ∧ ∃ o, Nx t s' o ∧ (∀ c, o = some c → opOf c = none) ∧ (o = none ∨ (o = some 41 ∧ 0 < s'.d)) := by
 cases h with
 | @alt _ s1 _ r m hc ha =>
  cases ha with
  | altMore hx2 hl hc2 ha2 =>
   have := altL_two ha2 (by simp)
   omega
  | @altEnd _ _ o hx2 ho =>
   have e1 : altN [r] = r := rfl
   rw [e1] at h1 ⊢
   cases hc with
   | catEnd hx3 ho3 =>
    have := hx.det hx3
    subst this
    rcases ho3 with h | h | ⟨h, _⟩ <;> cases h
   | catBad hx3 => have := hx.det hx3; cases this
   | catMore hx3 h3 h4 hl ha hs hc =>
    rcases signs_inv hs with ⟨rfl, rfl, o2, hx5, ho5⟩ | hop
    ·cases hc with
     | catEnd hx6 ho6 =>
      have e2 := hx5.det hx6
      subst e2
      have e3 := hx6.det hx2
      subst e3
      cases ha with
      | group hx7 => have := hx.det hx7; cases this
      | leaf hx7 hc7 hl7 =>
       have := hx.det hx7
       cases this
       cases hl7 with
       | set hset =>
        refine ⟨_, hset, rfl, _, hx5, ho5, ?_⟩
        rcases ho6 with h | h | h
        ·exact .inl h
        ·exact absurd h ho
        ·exact .inr h
       | sign h => omega
       | lit h => omega
     | catBad hx6 => exact absurd he (fail_ne _ _ _ (by decide))
     | catMore _ _ _ _ _ _ hc =>
      have := cat_two hc (by simp)
      omega
    ·have hl2 : r.f0 = 4 ∨ r.f0 = 5 ∨ r.f0 = 6 ∨ r.f0 = 2 := by
      cases hc with
      | catEnd => exact hop.elim .inl fun h => h.elim (fun h => .inr (.inl h)) (fun h => .inr (.inr (.inl h)))
      | catBad => exact hop.elim .inl fun h => h.elim (fun h => .inr (.inl h)) (fun h => .inr (.inr (.inl h)))
      | catMore _ _ _ _ _ _ hc => exact .inr (.inr (.inr (cat_two hc (by simp))))
     omega
theorem set_build {t : ByteArray} {w : RSet} {s s' : St} (hx : Nx t s (some 91)) (h : SetR t s.go w s') {o : Option Int} (ho : Nx t s' o) (h1 : ∀ c, o = some c → opOf c = none) (h2 : o = none ∨ (o = some 41 ∧ 0 < s'.d)) : R t .alt s ⟨1, w, []⟩ s' := by
 have ha : R t .atom s ⟨1, w, []⟩ s' := .leaf hx (by decide) (.set h)
 refine .alt (.catMore hx (by decide) (by decide) (by decide) ha (.signsEnd ho h1) (.catEnd ho (h2.elim .inl (fun h => .inr (.inr h))))) (.altEnd (acc := [_]) ho ?_)
 rcases h2 with h | ⟨h, _⟩ <;> rw [h] <;> simp
end Go.Proofs.Ythlffghlkggimaa.Pr
