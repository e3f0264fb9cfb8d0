/- regex: what each step of the parser keeps; a piece of a pattern within another text. -/
import Derived.Test.YthlffghlkggimaaPuRxT
set_option linter.unusedVariables false
namespace Go.Proofs.Ythlffghlkggimaa.Pr
open Go Go.RowKit Go.Proofs.YthlffghlkggimaaW.PrintWords Go.Proofs.YthlffghlkggimaaW.PrintLast Go.Proofs.YthlffghlkggimaaW.PrintMore
section
variable {t : ByteArray} (ht : (t.size : Int) ≤ 1000000)
include ht
theorem ch_kp {s s1 : St} {c c1 : Int} (hg : Good t s) (h : Ch t s c c1 s1) : Kp t s s1 := by
 cases h with
 | plain => exact Kp.refl hg
 | esc h => exact (esc_kp ht hg h).1
theorem rg_kp {fr : Int} {s s2 : St} {c z : Int} (hg : Good t s) (h : Rg t fr s c z s2) : Kp t s s2 := by
 cases h with
 | no => exact Kp.refl hg
 | @yes z s2 h0 h1 a b d e hc =>
  have hg2 : Good t { s with p := s.p + 2 } := fun he => by
   have := hg he
   show 0 ≤ s.d ∧ s.d ≤ s.p + 2 ∧ s.p + 2 ≤ _
   omega
  have hk2 : Kp t s { s with p := s.p + 2 } := ⟨hg2, fun he => ⟨he, by show s.p ≤ s.p + 2; omega, rfl⟩⟩
  split
  ·exact Kp.ne (fail_ne _ _ _ (by decide))
  ·exact hk2.trans (ch_kp ht hg2 hc)
theorem sl_kp {fr : Int} {f : Bool} {w w' : RSet} {s s' : St} (h : SL t fr f w s w' s') (hg : Good t s) : Kp t s s' := by
 induction h with
 | bad => exact Kp.ne (fail_ne _ _ _ (by decide))
 | close h => exact go_kp ht hg h
 | more h hf hc hr _ ih =>
  have k1 := go_kp ht hg h
  have k2 := ch_kp ht k1.1 hc
  have k3 := rg_kp ht k2.1 hr
  exact k1.trans (k2.trans (k3.trans (ih k3.1)))
theorem set_kp {w : RSet} {s s' : St} (h : SetR t s w s') (hg : Good t s) : Kp t s s' := by
 cases h with
 | neg h hs => exact (go_kp ht hg h).trans (sl_kp ht hs (go_kp ht hg h).1)
 | pos h _ hs => exact sl_kp ht hs hg
theorem leaf_kp {s s' : St} {c : Int} {n : RNode} (hg : Good t s) (ho : Nx t s (some c)) (h : Leaf t s c n s') : Kp t s.go s' := by
 have hg2 := go_good ht hg ho
 cases h with
 | set h => exact set_kp ht h hg2
 | dot => exact Kp.refl hg2
 | beg => exact Kp.refl hg2
 | fin => exact Kp.refl hg2
 | sign => exact Kp.ne (fail_ne _ _ _ (by decide))
 | esc h => exact (esc_kp ht hg2 h).1
 | lit => exact Kp.refl hg2
theorem shut_kp {s s1 : St} {o : Option Int} (hg : Good t s) (hx : Nx t s (some 40)) (hk : Kp t (deeper s) s1) (ho : Nx t s1 o) : Kp t s.go (shut (wrap64 (s.go.p - 1)) s1 o) ∧ ((shut (wrap64 (s.go.p - 1)) s1 o).e = 0 → o = some 41 ∧ s1.e = 0 ∧ s.d < 20 ∧ shut (wrap64 (s.go.p - 1)) s1 o = { s1.go with d := s.d }) := by
 have h1 := hx.ok
 have h2 := hg h1.1
 obtain ⟨hg1, hd1⟩ := deeper_kp ht hg hx
 by_cases ho2 : o = some 41
 ·subst ho2
  have h3 := ho.ok
  have h4 := hk.2 h3.1
  have h5 := hd1 h4.1
  have h6 := hk.1 h3.1
  have e : shut (wrap64 (s.go.p - 1)) s1 (some 41) = { s1.go with d := s.d } := by
   unfold shut
   simp only [if_true]
   rw [h4.2.2, h5.2.1, show s.d + 1 - 1 = s.d by omega, w64 (by omega) (by omega)]
  rw [e]
  have hp := go_p ht ho
  refine ⟨⟨fun _ => ?_, fun _ => ⟨h1.1, ?_, rfl⟩⟩, fun _ => ⟨rfl, h3.1, h5.2.2, rfl⟩⟩
  ·show 0 ≤ s.d ∧ s.d ≤ s1.go.p ∧ s1.go.p ≤ _
   omega
  ·show s.go.p ≤ s1.go.p
   rw [go_p ht hx, hp]
   omega
 ·have hne : (shut (wrap64 (s.go.p - 1)) s1 o).e ≠ 0 := by
   unfold shut
   simp only [if_neg ho2]
   exact fail_ne s1 _ _ (by decide)
  exact ⟨Kp.ne hne, fun h => absurd h hne⟩
theorem R_kp {cl : Cl} {s s' : St} {n : RNode} (h : R t cl s n s') (hg : Good t s) : Kp t s s' := by
 induction h with
 | alt h1 h2 i1 i2 => exact (i1 hg).trans (i2 (i1 hg).1)
 | altMore hx hl h1 h2 i1 i2 =>
  have k := go_kp ht hg hx
  exact k.trans ((i1 k.1).trans (i2 (i1 k.1).1))
 | altEnd => exact Kp.refl hg
 | catEnd => exact Kp.refl hg
 | catBad => exact Kp.ne (fail_ne _ _ _ (by decide))
 | catMore hx h1 h2 hl ha hs hc ia is ic => exact (ia hg).trans ((is (ia hg).1).trans (ic (is (ia hg).1).1))
 | signsMore hx ho hs is =>
  have k := go_kp ht hg hx
  exact k.trans (is k.1)
 | signsEnd => exact Kp.refl hg
 | group hx ha ho ia => exact (go_kp ht hg hx).trans (shut_kp ht hg hx (ia (deeper_kp ht hg hx).1) ho).1
 | leaf hx hc hl => exact (go_kp ht hg hx).trans (leaf_kp ht hg hx hl)
theorem atom_go {s s' : St} {n : RNode} {c : Int} (h : R t .atom s n s') (hg : Good t s) (hx : Nx t s (some c)) : Kp t s.go s' := by
 cases h with
 | group hx' ha ho => exact (shut_kp ht hg hx' (R_kp ht ha (deeper_kp ht hg hx').1) ho).1
 | leaf hx' hc hl => exact leaf_kp ht hg hx' hl
omit ht in
theorem Nx.no {s : St} {o : Option Int} (he : s.e ≠ 0) (h : Nx t s o) : o = none := by
 cases h with
 | non => rfl
 | som h => exact absurd h he
end
theorem R_err {t : ByteArray} {cl : Cl} {s s' : St} {n : RNode} (h : R t cl s n s') (he : s.e ≠ 0) (hc : ∀ x, cl ≠ x ∨ x ≠ Cl.atom) : s'.e = s.e := by
 have nx : ∀ {s : St} {c : Int}, s.e ≠ 0 → ¬ Nx t s (some c) := fun he h => he h.ok.1
 induction h with
 | alt h1 h2 i1 i2 =>
  have e1 := i1 he (fun x => by by_cases h : x = Cl.atom; exact .inl (by rw [h]; simp); exact .inr h)
  rw [i2 (by rw [e1]; exact he) (fun x => by by_cases h : x = Cl.atom; exact .inl (by rw [h]; simp); exact .inr h), e1]
 | altMore hx => exact absurd hx (nx he)
 | altEnd => rfl
 | catEnd => rfl
 | catBad hx => exact absurd hx (nx he)
 | catMore hx => exact absurd hx (nx he)
 | signsMore hx => exact absurd hx (nx he)
 | signsEnd => rfl
 | group hx => exact absurd hx (nx he)
 | leaf hx => exact absurd hx (nx he)
structure Emb (t1 t2 : ByteArray) (p0 δ dd : Int) (oy : Option Int) : Prop where
 agree : ∀ p, p0 ≤ p → 0 ≤ p → p < (t1.size : Int) → bt t2 (p + δ) = bt t1 p
 size : (t1.size : Int) + δ ≤ (t2.size : Int)
 fin : (oy = none ∧ (t2.size : Int) = t1.size + δ) ∨ (oy = some (bt t2 (t1.size + δ)) ∧ (t1.size : Int) + δ < t2.size)
 stop : oy = none ∨ oy = some 124 ∨ (oy = some 41 ∧ 0 < dd)
 h1 : (t1.size : Int) ≤ 1000000
 h2 : (t2.size : Int) ≤ 1000000
 b1 : 0 ≤ δ
 b2 : δ ≤ 1000000
 b3 : 0 ≤ dd
 b4 : dd ≤ 1000000
def sh (δ dd : Int) (s : St) : St := ⟨s.p + δ, s.d + dd, s.e, s.b⟩
section
variable {t1 t2 : ByteArray} {p0 δ dd : Int} {oy : Option Int} (E : Emb t1 t2 p0 δ dd oy)
include E
theorem Emb.nx {s : St} {c : Int} (hp : p0 ≤ s.p) (h : Nx t1 s (some c)) : Nx t2 (sh δ dd s) (some c) := by
 have h1 := h.ok
 have ha := E.agree s.p hp h1.2.1 h1.2.2.1
 rw [h1.2.2.2] at ha
 rw [← ha]
 exact .som h1.1 (by show 0 ≤ s.p + δ; have := E.b1; omega) (by show s.p + δ < _; have := E.size; omega)
theorem Emb.nxEnd {s : St} (h : Nx t1 s none) (he : s.e = 0) (hg : Good t1 s) : Nx t2 (sh δ dd s) oy ∧ s.p = t1.size := by
 have h1 := hg he
 have h2 : s.p = t1.size := by
  cases h with
  | non h => rcases h with h | h <;> omega
 refine ⟨?_, h2⟩
 rcases E.fin with ⟨rfl, hf⟩ | ⟨hf, hf2⟩
 ·exact .non (.inr (by show _ ≤ s.p + δ; omega))
 ·rw [hf, ← h2]
  exact .som he (by show 0 ≤ s.p + δ; have := E.b1; omega) (by show s.p + δ < _; omega)
theorem Emb.go {s : St} {c : Int} (h : Nx t1 s (some c)) : (sh δ dd s).go = sh δ dd s.go := by
 have h1 := h.ok
 have := E.h1
 have := E.b1
 have := E.b2
 unfold St.go sh
 simp only
 rw [w64 (n := s.p + δ + 1) (by omega) (by omega), w64 (n := s.p + 1) (by omega) (by omega), show s.p + δ + 1 = s.p + 1 + δ by omega]
theorem Emb.esc {s : St} {o : Option Int} (hp : p0 ≤ s.p) (h : Nx t1 s o) (he : (escF s o).2.e = 0) : Nx t2 (sh δ dd s) o ∧ escF (sh δ dd s) o = ((escF s o).1, sh δ dd (escF s o).2) := by
 cases o with
 | none => exact absurd he (fail_ne _ _ _ (by decide))
 | some c =>
  refine ⟨E.nx hp h, ?_⟩
  unfold escF at he ⊢
  simp only at he ⊢
  rw [E.go h]
  split at he
  ·rename_i h1; rw [if_pos h1, if_pos h1]
  ·rename_i h1
   rw [if_neg h1, if_neg h1]
   split at he
   ·rename_i h2; rw [if_pos h2, if_pos h2]
   ·rename_i h2
    rw [if_neg h2, if_neg h2]
    split at he
    ·exact absurd he (fail_ne _ _ _ (by decide))
    ·rename_i h3; rw [if_neg h3, if_neg h3]
theorem Emb.ch {s s1 : St} {c c1 : Int} (hp : p0 ≤ s.p) (h : Ch t1 s c c1 s1) (he : s1.e = 0) : Ch t2 (sh δ dd s) c c1 (sh δ dd s1) := by
 cases h with
 | plain h => exact .plain h
 | @esc o h =>
  obtain ⟨h1, h2⟩ := E.esc hp h he
  have h3 := Ch.esc h1
  rw [h2] at h3
  exact h3
theorem Emb.rg {fr : Int} (fr2 : Int) {s s2 : St} {c z : Int} (hp : p0 ≤ s.p) (h : Rg t1 fr s c z s2) (he : s2.e = 0) (hlt : s.p < t1.size) (h45 : bt t1 s.p = 45 → s.p + 1 < t1.size) : Rg t2 fr2 (sh δ dd s) c z (sh δ dd s2) := by
 have e1 := E.h1
 have e2 := E.b1
 have e3 := E.b2
 have e4 := E.size
 cases h with
 | no h0 h1 hn =>
  refine .no (by show 0 ≤ s.p + δ; omega) (by show s.p + δ < _; omega) fun ⟨a, b, d, f⟩ => ?_
  have a1 := E.agree s.p hp h0 hlt
  have h2 := h45 (by rw [← a1]; exact b)
  have a2 := E.agree (s.p + 1) (by omega) (by omega) h2
  refine hn ⟨h2, by rw [← a1]; exact b, ?_, f⟩
  rw [← a2, show s.p + 1 + δ = s.p + δ + 1 by omega]
  exact d
 | @yes z s2 h0 h1 a b d f hc =>
  have a1 := E.agree s.p hp h0 hlt
  have a2 := E.agree (s.p + 1) (by omega) (by omega) a
  have hz : ¬ z < c := fun hz => by
   rw [if_pos hz] at he
   exact absurd he (fail_ne _ _ _ (by decide))
  rw [if_neg hz] at he ⊢
  have hc2 := E.ch (s := { s with p := s.p + 2 }) (by show p0 ≤ s.p + 2; omega) hc he
  have hy := Rg.yes (t := t2) (fr := fr2) (s := sh δ dd s) (c := c) (z := z) (s2 := sh δ dd s2) (by show 0 ≤ s.p + δ; omega) (by show s.p + δ < _; omega) (by show s.p + δ + 1 < _; omega) (by show bt t2 (s.p + δ) = 45; rw [a1, b])
   (by show bt t2 (s.p + δ + 1) ≠ 93; rw [show s.p + δ + 1 = s.p + 1 + δ by omega, a2]; exact d) f (by
    show Ch t2 ⟨s.p + δ + 2, s.d + dd, s.e, s.b⟩ (bt t2 (s.p + δ + 1)) z (sh δ dd s2)
    rw [show s.p + δ + 1 = s.p + 1 + δ by omega, a2, show s.p + δ + 2 = s.p + 2 + δ by omega]
    exact hc2)
  rw [if_neg hz] at hy
  exact hy
omit E in
theorem sl_lt {t : ByteArray} (ht : (t.size : Int) ≤ 1000000) {fr : Int} {f : Bool} {w w' : RSet} {s s' : St} (h : SL t fr f w s w' s') (hg : Good t s) (he : s'.e = 0) : s.e = 0 ∧ s.p < t.size ∧ (bt t s.p = 45 → s.p + 1 < t.size) := by
 induction h with
 | bad => exact absurd he (fail_ne _ _ _ (by decide))
 | close h => exact ⟨h.ok.1, h.ok.2.2.1, fun h' => by rw [h.ok.2.2.2] at h'; omega⟩
 | more h hf hc hr hs ih =>
  have k1 := go_kp ht hg h
  have k2 := ch_kp ht k1.1 hc
  have k3 := rg_kp ht k2.1 hr
  have h1 := ih k3.1 he
  have h3 := k3.2 h1.1
  have h2 := k2.2 h3.1
  rw [go_p ht h] at h2
  exact ⟨h.ok.1, h.ok.2.2.1, fun _ => by omega⟩
theorem Emb.sl {fr : Int} (fr2 : Int) {f : Bool} {w w' : RSet} {s s' : St} (h : SL t1 fr f w s w' s') (hg : Good t1 s) (hp : p0 ≤ s.p) (he : s'.e = 0) : SL t2 fr2 f w (sh δ dd s) w' (sh δ dd s') := by
 have ht := E.h1
 induction h with
 | bad => exact absurd he (fail_ne _ _ _ (by decide))
 | close h =>
  rw [← E.go h]
  exact .close (E.nx hp h)
 | more h hf hc hr hs ih =>
  have k1 := go_kp ht hg h
  have k2 := ch_kp ht k1.1 hc
  have k3 := rg_kp ht k2.1 hr
  have h1 := sl_lt ht hs k3.1 he
  have h3 := k3.2 h1.1
  have h2 := k2.2 h3.1
  rw [go_p ht h] at h2
  have c2 := E.ch (by rw [go_p ht h]; omega) hc h3.1
  rw [← E.go h] at c2
  have hr2 : _ := E.rg fr2 (by omega) hr h1.1 (by omega) (fun h45 => by
   cases hr with
   | no => exact h1.2.2 h45
   | yes _ _ a => exact a)
  exact .more (E.nx hp h) hf c2 hr2 (ih k3.1 (by omega) he)
theorem Emb.set {w : RSet} {s s' : St} (h : SetR t1 s w s') (hg : Good t1 s) (hp : p0 ≤ s.p) (he : s'.e = 0) : SetR t2 (sh δ dd s) w (sh δ dd s') := by
 have ht := E.h1
 cases h with
 | neg h hs =>
  have k := go_kp ht hg h
  have := E.sl (wrap64 ((sh δ dd s).p - 1)) hs k.1 (by rw [go_p ht h]; omega) he
  rw [← E.go h] at this
  exact .neg (E.nx hp h) this
 | @pos w s' o h ho hs =>
  have hlt := sl_lt ht hs hg he
  cases o with
  | none => cases h with | non h => exfalso; rcases h with h | h <;> omega
  | some c => exact .pos (E.nx hp h) ho (E.sl _ hs hg hp he)
theorem Emb.leaf {s s' : St} {c : Int} {n : RNode} (ho : Nx t1 s (some c)) (h : Leaf t1 s c n s') (hg : Good t1 s) (hp : p0 ≤ s.p) (he : s'.e = 0) : Leaf t2 (sh δ dd s) c n (sh δ dd s') := by
 have ht := E.h1
 have hg2 := go_good ht hg ho
 have hgo := E.go ho
 have hpp : p0 ≤ s.go.p := by rw [go_p ht ho]; omega
 cases h with
 | set h => exact .set (by rw [hgo]; exact E.set h hg2 hpp he)
 | dot => rw [← hgo]; exact .dot
 | beg => rw [← hgo]; exact .beg
 | fin => rw [← hgo]; exact .fin
 | sign => exact absurd he (fail_ne _ _ _ (by decide))
 | @esc o h =>
  obtain ⟨h1, h2⟩ := E.esc hpp h he
  rw [← hgo] at h1 h2
  have h3 := Leaf.esc (s := sh δ dd s) h1
  rw [h2] at h3
  exact h3
 | lit a b c d e f g h => rw [← hgo]; exact .lit a b c d e f g h
end
end Go.Proofs.Ythlffghlkggimaa.Pr
