/- regex: the parser comes to an end at every pattern. -/
import Derived.Test.YthlffghlkggimaaPuRxC
namespace Go.Proofs.Ythlffghlkggimaa.Pr
open Go Go.RowKit Go.Proofs.YthlffghlkggimaaW.PrintWords Go.Proofs.YthlffghlkggimaaW.PrintLast Go.Proofs.YthlffghlkggimaaW.PrintMore
def Good (t : ByteArray) (s : St) : Prop := s.e = 0 → 0 ≤ s.d ∧ s.d ≤ s.p ∧ s.p ≤ (t.size : Int)
theorem fail_ne (s : St) (p e : Int) (h : e ≠ 0) : (s.fail p e).e ≠ 0 := by
 unfold St.fail
 split
 ·exact h
 ·assumption
theorem good_ne {t : ByteArray} {s : St} (h : s.e ≠ 0) : Good t s := fun h' => absurd h' h
theorem Good.nx {t : ByteArray} {s : St} (h : Good t s) : ∃ o, Nx t s o := by
 by_cases he : s.e = 0
 ·have := h he
  by_cases hp : s.p < (t.size : Int)
  ·exact ⟨_, .som he (by omega) hp⟩
  ·exact ⟨none, .non (.inr (by omega))⟩
 ·exact ⟨none, .non (.inl he)⟩
theorem go_p {t : ByteArray} (ht : (t.size : Int) ≤ 1000000) {s : St} {c : Int} (h : Nx t s (some c)) : s.go.p = s.p + 1 := by
 have := h.ok
 exact w64 (by omega) (by omega)
theorem go_good {t : ByteArray} (ht : (t.size : Int) ≤ 1000000) {s : St} {c : Int} (hg : Good t s) (h : Nx t s (some c)) : Good t s.go := by
 intro _
 have h1 := h.ok
 have h2 := hg h1.1
 rw [go_p ht h]
 show 0 ≤ s.d ∧ s.d ≤ s.p + 1 ∧ s.p + 1 ≤ _
 omega
def Kp (t : ByteArray) (s s' : St) : Prop := Good t s' ∧ (s'.e = 0 → s.e = 0 ∧ s.p ≤ s'.p ∧ s'.d = s.d)
theorem Kp.refl {t : ByteArray} {s : St} (h : Good t s) : Kp t s s := ⟨h, fun h => ⟨h, Int.le_refl _, rfl⟩⟩
theorem Kp.trans {t : ByteArray} {a b c : St} (h : Kp t a b) (k : Kp t b c) : Kp t a c := ⟨k.1, fun he => by
 have h1 := k.2 he
 have h2 := h.2 h1.1
 exact ⟨h2.1, by omega, by rw [h1.2.2, h2.2.2]⟩⟩
theorem Kp.ne {t : ByteArray} {s s' : St} (h : s'.e ≠ 0) : Kp t s s' := ⟨good_ne h, fun h' => absurd h' h⟩
theorem go_kp {t : ByteArray} (ht : (t.size : Int) ≤ 1000000) {s : St} {c : Int} (hg : Good t s) (h : Nx t s (some c)) : Kp t s s.go :=
 ⟨go_good ht hg h, fun _ => ⟨h.ok.1, by rw [go_p ht h]; omega, rfl⟩⟩
theorem esc_kp {t : ByteArray} (ht : (t.size : Int) ≤ 1000000) {s : St} {o : Option Int} (hg : Good t s) (h : Nx t s o) : Kp t s (escF s o).2 ∧ (escF s o).2.p = wrap64 (s.p + 1) := by
 have hp : ∀ x, (s.go.fail x 9).p = wrap64 (s.p + 1) := fun x => by unfold St.fail; split <;> rfl
 cases o with
 | none => exact ⟨Kp.ne (fail_ne _ _ _ (by decide)), hp _⟩
 | some c =>
  unfold escF
  simp only
  split
  ·exact ⟨go_kp ht hg h, rfl⟩
  ·split
   ·exact ⟨go_kp ht hg h, rfl⟩
   ·split
    ·exact ⟨Kp.ne (fail_ne _ _ _ (by decide)), hp _⟩
    ·exact ⟨go_kp ht hg h, rfl⟩
theorem ch_total {t : ByteArray} (ht : (t.size : Int) ≤ 1000000) {s : St} (hg : Good t s) (h0 : 0 ≤ s.p) (h1 : s.p ≤ 2000000) (c : Int) : ∃ c1 s1, Ch t s c c1 s1 ∧ Kp t s s1 ∧ s.p ≤ s1.p ∧ s1.p ≤ s.p + 1 := by
 by_cases hc : c = 92
 ·subst hc
  obtain ⟨o, ho⟩ := hg.nx
  obtain ⟨hk, hp⟩ := esc_kp ht hg ho
  rw [w64 (by omega) (by omega)] at hp
  exact ⟨_, _, .esc ho, hk, by omega, by omega⟩
 ·exact ⟨c, s, .plain hc, Kp.refl hg, by omega, by omega⟩
theorem rg_total {t : ByteArray} (ht : (t.size : Int) ≤ 1000000) (fr : Int) {s : St} (hg : Good t s) (h0 : 0 ≤ s.p) (h1 : s.p ≤ 2000000) (c : Int) : ∃ z s2, Rg t fr s c z s2 ∧ Kp t s s2 := by
 by_cases h : s.p + 1 < (t.size : Int) ∧ bt t s.p = 45 ∧ bt t (s.p + 1) ≠ 93 ∧ s.e = 0
 ·have hg2 : Good t { s with p := s.p + 2 } := fun he => by
   have := hg he
   show 0 ≤ s.d ∧ s.d ≤ s.p + 2 ∧ s.p + 2 ≤ _
   omega
  obtain ⟨z, s2, hc, hk, _, _⟩ := ch_total ht hg2 (by show 0 ≤ s.p + 2; omega) (by show s.p + 2 ≤ _; omega) (bt t (s.p + 1))
  refine ⟨z, _, .yes h0 (by omega) h.1 h.2.1 h.2.2.1 h.2.2.2 hc, ?_⟩
  have hk2 : Kp t s { s with p := s.p + 2 } := ⟨hg2, fun he => ⟨he, by show s.p ≤ s.p + 2; omega, rfl⟩⟩
  split
  ·exact Kp.ne (fail_ne _ _ _ (by decide))
  ·exact hk2.trans hk
 ·exact ⟨c, s, .no h0 (by omega) h, Kp.refl hg⟩
theorem sl_total {t : ByteArray} (ht : (t.size : Int) ≤ 1000000) (fr : Int) (d : Nat) : ∀ (f : Bool) (w : RSet) (s : St), Good t s → (s.e = 0 → (t.size : Int) - s.p < d) → ∃ w' s', SL t fr f w s w' s' ∧ Kp t s s' := by
 induction d with
 | zero =>
  intro f w s hg hd
  have he : s.e ≠ 0 := fun he => by
   have := hg he
   have := hd he
   omega
  exact ⟨w, _, .bad (.non (.inl he)), Kp.ne (fail_ne _ _ _ (by decide))⟩
 | succ d ih =>
  intro f w s hg hd
  obtain ⟨o, ho⟩ := hg.nx
  cases o with
  | none => exact ⟨w, _, .bad ho, Kp.ne (fail_ne _ _ _ (by decide))⟩
  | some c =>
   have hok := ho.ok
   by_cases hcl : c = 93 ∧ f = false
   ·obtain ⟨rfl, rfl⟩ := hcl
    exact ⟨w, _, .close ho, go_kp ht hg ho⟩
   ·have hp := go_p ht ho
    obtain ⟨c1, s1, hch, hk1, hq1, hq2⟩ := ch_total ht (go_good ht hg ho) (by omega) (by omega) c
    obtain ⟨z, s2, hrg, hk2⟩ := rg_total ht fr hk1.1 (by omega) (by omega) c1
    obtain ⟨w', s', hsl, hk3⟩ := ih false (addR w c1 z) s2 hk2.1 (fun he => by
     have h2 := hk2.2 he
     have := hd hok.1
     omega)
    refine ⟨w', s', .more ho (fun h93 => ?_) hch hrg hsl, (go_kp ht hg ho).trans (hk1.trans (hk2.trans hk3))⟩
    cases f with
    | true => rfl
    | false => exact absurd ⟨h93, rfl⟩ hcl
theorem set_total {t : ByteArray} (ht : (t.size : Int) ≤ 1000000) {s : St} (hg : Good t s) : ∃ w s', SetR t s w s' ∧ Kp t s s' := by
 obtain ⟨o, ho⟩ := hg.nx
 by_cases h : o = some 94
 ·subst h
  have h1 := ho.ok
  have h2 := hg h1.1
  obtain ⟨w, s', hs, hk⟩ := sl_total ht (wrap64 (s.p - 1)) (t.size + 1) true zW s.go (go_good ht hg ho) (fun _ => by rw [go_p ht ho]; omega)
  exact ⟨_, s', .neg ho hs, (go_kp ht hg ho).trans hk⟩
 ·obtain ⟨w, s', hs, hk⟩ := sl_total ht (wrap64 (s.p - 1)) (t.size + 1) true zW s hg (fun he => by have := hg he; omega)
  exact ⟨_, s', .pos ho h hs, hk⟩
theorem leaf_total {t : ByteArray} (ht : (t.size : Int) ≤ 1000000) {s : St} (hg : Good t s) {c : Int} (ho : Nx t s (some c)) : ∃ n s', Leaf t s c n s' ∧ Kp t s.go s' := by
 have hg2 := go_good ht hg ho
 by_cases h1 : c = 91
 ·subst h1
  obtain ⟨w, s', h, hk⟩ := set_total ht hg2
  exact ⟨_, s', .set h, hk⟩
 ·by_cases h2 : c = 46
  ·subst h2; exact ⟨_, _, .dot, Kp.refl hg2⟩
  ·by_cases h3 : c = 94
   ·subst h3; exact ⟨_, _, .beg, Kp.refl hg2⟩
   ·by_cases h4 : c = 36
    ·subst h4; exact ⟨_, _, .fin, Kp.refl hg2⟩
    ·by_cases h5 : c = 42 ∨ c = 43 ∨ c = 63
     ·exact ⟨_, _, .sign h5, Kp.ne (fail_ne _ _ _ (by decide))⟩
     ·by_cases h6 : c = 92
      ·subst h6
       obtain ⟨o, hx⟩ := hg2.nx
       exact ⟨_, _, .esc hx, (esc_kp ht hg2 hx).1⟩
      ·exact ⟨_, _, .lit h1 h2 h3 h4 (fun h => h5 (.inl h)) (fun h => h5 (.inr (.inl h))) (fun h => h5 (.inr (.inr h))) h6, Kp.refl hg2⟩
def rem (t : ByteArray) (s : St) : Nat := if s.e = 0 then ((t.size : Int) - s.p).toNat + 1 else 0
theorem Kp.rem {t : ByteArray} {s s' : St} (h : Kp t s s') : rem t s' ≤ rem t s := by
 unfold Pr.rem
 by_cases he : s'.e = 0
 ·have h1 := h.2 he
  rw [if_pos he, if_pos h1.1]
  omega
 ·rw [if_neg he]; omega
theorem go_rem {t : ByteArray} (ht : (t.size : Int) ≤ 1000000) {s s' : St} {c : Int} (ho : Nx t s (some c)) (hk : Kp t s.go s') : rem t s' + 1 ≤ rem t s := by
 have h1 := ho.ok
 unfold rem
 rw [if_pos h1.1]
 by_cases he : s'.e = 0
 ·have h2 := hk.2 he
  rw [go_p ht ho] at h2
  rw [if_pos he]
  omega
 ·rw [if_neg he]; omega
theorem deeper_kp {t : ByteArray} (ht : (t.size : Int) ≤ 1000000) {s : St} (hg : Good t s) {c : Int} (ho : Nx t s (some c)) : Good t (deeper s) ∧ ((deeper s).e = 0 → (deeper s).p = s.p + 1 ∧ (deeper s).d = s.d + 1 ∧ s.d < 20) := by
 have h1 := ho.ok
 have h2 := hg h1.1
 unfold deeper
 simp only
 by_cases hd : 20 < wrap64 (s.d + 1)
 ·rw [if_pos hd]
  have := fail_ne ⟨s.go.p, wrap64 (s.d + 1), s.go.e, s.go.b⟩ (wrap64 (s.go.p - 1)) 14 (by decide)
  exact ⟨good_ne this, fun h => absurd h this⟩
 ·rw [if_neg hd]
  rw [w64 (n := s.d + 1) (by omega) (by omega)] at hd ⊢
  refine ⟨fun _ => ?_, fun _ => ⟨go_p ht ho, rfl, by omega⟩⟩
  show 0 ≤ s.d + 1 ∧ s.d + 1 ≤ s.go.p ∧ s.go.p ≤ _
  rw [go_p ht ho]
  omega
def Tot (t : ByteArray) (cl : Cl) (s : St) : Prop := ∃ n s', R t cl s n s' ∧ Kp t s s'
theorem R_total {t : ByteArray} (ht : (t.size : Int) ≤ 1000000) (d : Nat) : ∀ s, Good t s → rem t s ≤ d →
  (∀ n, Tot t (.signs n) s) ∧ (∀ acc : List RNode, (s.e = 0 → (acc.length : Int) ≤ s.p) → Tot t (.cat acc) s) ∧ (∀ acc : List RNode, (s.e = 0 → (acc.length : Int) ≤ s.p + 1) → Tot t (.altL acc) s) ∧ Tot t .alt s := by
 induction d with
 | zero =>
  intro s hg hd
  have he : s.e ≠ 0 := fun he => by unfold rem at hd; rw [if_pos he] at hd; omega
  have hx : Nx t s none := .non (.inl he)
  have k := Kp.refl hg
  refine ⟨fun n => ⟨_, _, .signsEnd hx (by simp), k⟩, fun acc _ => ⟨_, _, .catEnd hx (.inl rfl), k⟩, fun acc _ => ⟨_, _, .altEnd hx (by simp), k⟩, ⟨_, _, .alt (.catEnd hx (.inl rfl)) (.altEnd hx (by simp)), k⟩⟩
 | succ d ih =>
  have hsigns : ∀ s, Good t s → rem t s ≤ d + 1 → ∀ n, Tot t (.signs n) s := by
   intro s hg hd n
   obtain ⟨o, ho⟩ := hg.nx
   cases o with
   | none => exact ⟨_, _, .signsEnd ho (by simp), Kp.refl hg⟩
   | some c =>
    cases hop : opOf c with
    | none => exact ⟨_, _, .signsEnd ho (fun c' h => by cases h; exact hop), Kp.refl hg⟩
    | some op =>
     have hk := go_kp ht hg ho
     have hr := go_rem ht ho (Kp.refl hk.1)
     obtain ⟨m, s', hR, hk2⟩ := (ih s.go hk.1 (by omega)).1 ⟨op, zW, [n]⟩
     exact ⟨m, s', .signsMore ho hop hR, hk.trans hk2⟩
  have hatom : ∀ s, Good t s → rem t s ≤ d + 1 → ∀ c, Nx t s (some c) → ∃ n s', R t .atom s n s' ∧ Kp t s.go s' := by
   intro s hg hd c ho
   have h1 := ho.ok
   have h2 := hg h1.1
   by_cases hc : c = 40
   ·subst hc
    obtain ⟨hg1, hd1⟩ := deeper_kp ht hg ho
    have hr : rem t (deeper s) ≤ d := by
     unfold rem at hd ⊢
     rw [if_pos h1.1] at hd
     by_cases he : (deeper s).e = 0
     ·rw [if_pos he, (hd1 he).1]; omega
     ·rw [if_neg he]; omega
    obtain ⟨n, s1, hR, hk⟩ := (ih (deeper s) hg1 hr).2.2.2
    obtain ⟨o, hx⟩ := hk.1.nx
    refine ⟨n, _, .group ho hR hx, ?_⟩
    by_cases ho2 : o = some 41
    ·subst ho2
     have h3 := hx.ok
     have h4 := hk.2 h3.1
     have h5 := hd1 h4.1
     have h6 := hk.1 h3.1
     have e : shut (wrap64 (s.go.p - 1)) s1 (some 41) = { s1.go with d := s.d } := by
      unfold shut
      simp only [if_true]
      rw [h4.2.2, h5.2.1, show s.d + 1 - 1 = s.d by omega, w64 (by omega) (by omega)]
     rw [e]
     have hp := go_p ht hx
     refine ⟨fun _ => ?_, fun _ => ⟨h1.1, ?_, rfl⟩⟩
     ·show 0 ≤ s.d ∧ s.d ≤ s1.go.p ∧ s1.go.p ≤ _
      omega
     ·show s.go.p ≤ s1.go.p
      rw [go_p ht ho, hp]
      omega
    ·refine Kp.ne ?_
     unfold shut
     simp only [if_neg ho2]
     exact fail_ne s1 _ _ (by decide)
   ·obtain ⟨n, s', hl, hk⟩ := leaf_total ht hg ho
    exact ⟨n, s', .leaf ho hc hl, hk⟩
  have hcat : ∀ s, Good t s → rem t s ≤ d + 1 → ∀ acc : List RNode, (s.e = 0 → (acc.length : Int) ≤ s.p) → Tot t (.cat acc) s := by
   intro s hg hd acc hl
   obtain ⟨o, ho⟩ := hg.nx
   cases o with
   | none => exact ⟨_, _, .catEnd ho (.inl rfl), Kp.refl hg⟩
   | some c =>
    have h1 := ho.ok
    have hl1 := hl h1.1
    by_cases c1 : c = 124
    ·subst c1; exact ⟨_, _, .catEnd ho (.inr (.inl rfl)), Kp.refl hg⟩
    ·by_cases c2 : c = 41
     ·subst c2
      by_cases hdp : 0 < s.d
      ·exact ⟨_, _, .catEnd ho (.inr (.inr ⟨rfl, hdp⟩)), Kp.refl hg⟩
      ·exact ⟨_, _, .catBad ho hdp, Kp.ne (fail_ne _ _ _ (by decide))⟩
     ·obtain ⟨n, s1, ha, hk1⟩ := hatom s hg hd c ho
      have hr1 := go_rem ht ho hk1
      obtain ⟨m, s2, hs, hk2⟩ := (ih s1 hk1.1 (by omega)).1 n
      have hr2 := hk2.rem
      obtain ⟨r, s3, hcc, hk3⟩ := (ih s2 hk2.1 (by omega)).2.1 (acc ++ [m]) (fun he => by
       have h2 := hk2.2 he
       have h3 := hk1.2 h2.1
       rw [go_p ht ho] at h3
       rw [List.length_append]
       simp only [List.length_cons, List.length_nil]
       omega)
      exact ⟨r, s3, .catMore ho c1 c2 (by omega) ha hs hcc, (go_kp ht hg ho).trans (hk1.trans (hk2.trans hk3))⟩
  have haltL : ∀ s, Good t s → rem t s ≤ d + 1 → ∀ acc : List RNode, (s.e = 0 → (acc.length : Int) ≤ s.p + 1) → Tot t (.altL acc) s := by
   intro s hg hd acc hl
   obtain ⟨o, ho⟩ := hg.nx
   by_cases c1 : o = some 124
   ·subst c1
    have h1 := ho.ok
    have hl1 := hl h1.1
    have hk := go_kp ht hg ho
    have hr := go_rem ht ho (Kp.refl hk.1)
    obtain ⟨n, s1, hc, hk1⟩ := (ih s.go hk.1 (by omega)).2.1 [] (fun he => by rw [go_p ht ho]; simp only [List.length_nil]; omega)
    have hr1 := hk1.rem
    obtain ⟨m, s2, ha, hk2⟩ := (ih s1 hk1.1 (by omega)).2.2.1 (acc ++ [n]) (fun he => by
     have h3 := hk1.2 he
     rw [go_p ht ho] at h3
     rw [List.length_append]
     simp only [List.length_cons, List.length_nil]
     omega)
    exact ⟨m, s2, .altMore ho (by omega) hc ha, hk.trans (hk1.trans hk2)⟩
   ·exact ⟨_, _, .altEnd ho c1, Kp.refl hg⟩
  intro s hg hd
  refine ⟨hsigns s hg hd, hcat s hg hd, haltL s hg hd, ?_⟩
  obtain ⟨n, s1, hc, hk1⟩ := hcat s hg hd [] (fun he => by have := hg he; simp only [List.length_nil]; omega)
  have hr1 := hk1.rem
  obtain ⟨m, s2, ha, hk2⟩ := haltL s1 hk1.1 (by omega) [n] (fun he => by have := hk1.1 he; simp only [List.length_cons, List.length_nil]; omega)
  exact ⟨m, s2, .alt hc ha, hk1.trans hk2⟩
def s0 : St := ⟨0, 0, 0, 0⟩
theorem s0_good (t : ByteArray) : Good t s0 := fun _ => by show (0 : Int) ≤ 0 ∧ (0 : Int) ≤ 0 ∧ (0 : Int) ≤ _; omega
theorem alt_total (t : ByteArray) (ht : (t.size : Int) ≤ 1000000) : ∃ n s', R t .alt s0 n s' ∧ Kp t s0 s' :=
 (R_total ht _ s0 (s0_good t) (Nat.le_refl _)).2.2.2
end Go.Proofs.Ythlffghlkggimaa.Pr
