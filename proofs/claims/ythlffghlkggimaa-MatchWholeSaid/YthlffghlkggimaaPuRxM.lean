/- regex: a pattern within another text is what it is by itself, or too deep. -/
import Derived.Test.YthlffghlkggimaaPuRxN
set_option linter.unusedVariables false
namespace Go.Proofs.Ythlffghlkggimaa.Pr
open Go Go.RowKit Go.Proofs.YthlffghlkggimaaW.PrintWords Go.Proofs.YthlffghlkggimaaW.PrintLast Go.Proofs.YthlffghlkggimaaW.PrintMore
theorem nx_dead {t : ByteArray} {s : St} (he : s.e ≠ 0) : Nx t s none := .non (.inl he)
theorem dead_signs {t : ByteArray} {s : St} (he : s.e ≠ 0) (n : RNode) : R t (.signs n) s n s := .signsEnd (nx_dead he) (by simp)
theorem dead_cat {t : ByteArray} {s : St} (he : s.e ≠ 0) (acc : List RNode) : R t (.cat acc) s (catN acc) s := .catEnd (nx_dead he) (.inl rfl)
theorem dead_altL {t : ByteArray} {s : St} (he : s.e ≠ 0) (acc : List RNode) : R t (.altL acc) s (altN acc) s := .altEnd (nx_dead he) (by simp)
theorem dead_alt {t : ByteArray} {s : St} (he : s.e ≠ 0) : R t .alt s (altN [catN []]) s := .alt (dead_cat he []) (dead_altL he _)
def Dp (t : ByteArray) (cl : Cl) (s : St) : Prop := ∃ m s2, R t cl s m s2 ∧ s2.e = 14
theorem ne14 {s : St} (h : s.e = 14) : s.e ≠ 0 := by omega
section
variable {t1 t2 : ByteArray} {p0 δ dd : Int} {oy : Option Int} (E : Emb t1 t2 p0 δ dd oy)
include E
theorem Emb.opNone : ∀ c, oy = some c → opOf c = none := by
 intro c h
 rcases E.stop with h' | h' | ⟨h', _⟩ <;> rw [h'] at h <;> cases h <;> rfl
theorem Emb.R {cl : Cl} {s s' : St} {n : RNode} (h : R t1 cl s n s') (hg : Good t1 s) (hp : p0 ≤ s.p) (he : s'.e = 0) (ha : (cl = .alt ∨ ∃ acc, cl = .altL acc) → Nx t1 s' none → oy ≠ some 124) :
  R t2 cl (sh δ dd s) n (sh δ dd s') ∨ Dp t2 cl (sh δ dd s) := by
 have ht := E.h1
 induction h with
 | @alt s s1 s2 n m h1 h2 i1 i2 =>
  have k1 := R_kp ht h1 hg
  have e1 := (R_kp ht h2 k1.1).2 he
  have e0 := k1.2 e1.1
  rcases i1 hg hp e1.1 (by rintro (h | ⟨_, h⟩) <;> cases h) with r1 | ⟨m1, s3, r1, he3⟩
  ·rcases i2 k1.1 (by omega) he (fun _ => ha (.inl rfl)) with r2 | ⟨m2, s4, r2, he4⟩
   ·exact .inl (.alt r1 r2)
   ·exact .inr ⟨m2, s4, .alt r1 r2, he4⟩
  ·exact .inr ⟨_, s3, .alt r1 (dead_altL (ne14 he3) _), he3⟩
 | @altMore s s1 s2 acc n m hx hl h1 h2 i1 i2 =>
  have kg := go_kp ht hg hx
  have k1 := R_kp ht h1 kg.1
  have e1 := (R_kp ht h2 k1.1).2 he
  have e0 := k1.2 e1.1
  have hgp := go_p ht hx
  have hx2 := E.nx hp hx
  rcases i1 kg.1 (by omega) e1.1 (by rintro (h | ⟨_, h⟩) <;> cases h) with r1 | ⟨m1, s3, r1, he3⟩
  ·rw [← E.go hx] at r1
   rcases i2 k1.1 (by omega) he (fun _ => ha (.inr ⟨_, rfl⟩)) with r2 | ⟨m2, s4, r2, he4⟩
   ·exact .inl (.altMore hx2 hl r1 r2)
   ·exact .inr ⟨m2, s4, .altMore hx2 hl r1 r2, he4⟩
  ·rw [← E.go hx] at r1
   exact .inr ⟨_, s3, .altMore hx2 hl r1 (dead_altL (ne14 he3) _), he3⟩
 | @altEnd s acc o hx ho =>
  cases o with
  | none => exact .inl (.altEnd (E.nxEnd hx he hg).1 (ha (.inr ⟨_, rfl⟩) hx))
  | some c => exact .inl (.altEnd (E.nx hp hx) ho)
 | @catEnd s acc o hx ho =>
  have hd := hg he
  have hb := E.b3
  cases o with
  | none =>
   have hx2 := (E.nxEnd hx he hg).1
   refine .inl (.catEnd hx2 ?_)
   rcases E.stop with h | h | ⟨h, hdd⟩
   ·exact .inl h
   ·exact .inr (.inl h)
   ·exact .inr (.inr ⟨h, by show 0 < s.d + dd; omega⟩)
  | some c =>
   refine .inl (.catEnd (E.nx hp hx) ?_)
   rcases ho with h | h | ⟨h, h0⟩
   ·cases h
   ·exact .inr (.inl h)
   ·exact .inr (.inr ⟨h, by show 0 < s.d + dd; omega⟩)
 | catBad => exact absurd he (fail_ne _ _ _ (by decide))
 | @catMore s s1 s2 s3 acc n m r c hx h1 h2 hl hat hs hc ia is ic =>
  have k1 := R_kp ht hat hg
  have k2 := R_kp ht hs k1.1
  have k3 := R_kp ht hc k2.1
  have e2 := k3.2 he
  have e1 := k2.2 e2.1
  have e0 := k1.2 e1.1
  have hx2 := E.nx hp hx
  rcases ia hg hp e1.1 (by rintro (h | ⟨_, h⟩) <;> cases h) with r1 | ⟨m1, s4, r1, he4⟩
  ·rcases is k1.1 (by omega) e2.1 (by rintro (h | ⟨_, h⟩) <;> cases h) with r2 | ⟨m2, s5, r2, he5⟩
   ·rcases ic k2.1 (by omega) he (by rintro (h | ⟨_, h⟩) <;> cases h) with r3 | ⟨m3, s6, r3, he6⟩
    ·exact .inl (.catMore hx2 h1 h2 hl r1 r2 r3)
    ·exact .inr ⟨m3, s6, .catMore hx2 h1 h2 hl r1 r2 r3, he6⟩
   ·exact .inr ⟨_, s5, .catMore hx2 h1 h2 hl r1 r2 (dead_cat (ne14 he5) _), he5⟩
  ·exact .inr ⟨_, s4, .catMore hx2 h1 h2 hl r1 (dead_signs (ne14 he4) _) (dead_cat (ne14 he4) _), he4⟩
 | @signsMore s s' n m c op hx ho hs is =>
  have kg := go_kp ht hg hx
  have hgp := go_p ht hx
  rcases is kg.1 (by omega) he (by rintro (h | ⟨_, h⟩) <;> cases h) with r1 | ⟨m1, s4, r1, he4⟩
  ·rw [← E.go hx] at r1
   exact .inl (.signsMore (E.nx hp hx) ho r1)
  ·rw [← E.go hx] at r1
   exact .inr ⟨m1, s4, .signsMore (E.nx hp hx) ho r1, he4⟩
 | @signsEnd s n o hx ho =>
  cases o with
  | none => exact .inl (.signsEnd (E.nxEnd hx he hg).1 E.opNone)
  | some c => exact .inl (.signsEnd (E.nx hp hx) ho)
 | @group s s1 n o hx hal ho ia =>
  have hdk := deeper_kp ht hg hx
  have ka := R_kp ht hal hdk.1
  obtain ⟨ksh, hsh⟩ := shut_kp ht hg hx ka ho
  obtain ⟨rfl, e1, hd20, hsh2⟩ := hsh he
  have ed := ka.2 e1
  have hd := hdk.2 ed.1
  have h1 := hx.ok
  have hgs := hg h1.1
  have hx2 := E.nx hp hx
  have hb3 := E.b3
  have hb4 := E.b4
  have hb1 := E.b1
  have hb2 := E.b2
  by_cases hdeep : 20 < s.d + dd + 1
  ·have h14 : (deeper (sh δ dd s)).e = 14 := by
    unfold deeper
    simp only
    rw [show (sh δ dd s).d = s.d + dd from rfl, w64 (n := s.d + dd + 1) (by omega) (by omega), if_pos hdeep]
    unfold St.fail
    rw [if_pos (show (sh δ dd s).go.e = 0 from h1.1)]
   have hne := ne14 h14
   refine .inr ⟨_, _, .group hx2 (dead_alt hne) (nx_dead hne), ?_⟩
   unfold shut
   simp only [show (none : Option Int) ≠ some 41 by simp, if_false]
   show ((deeper (sh δ dd s)).fail _ 9).e = 14
   unfold St.fail
   rw [if_neg hne]
   exact h14
  ·have hdp : deeper (sh δ dd s) = sh δ dd (deeper s) := by
    unfold deeper
    simp only
    rw [show (sh δ dd s).d = s.d + dd from rfl, w64 (n := s.d + dd + 1) (by omega) (by omega), if_neg hdeep, w64 (n := s.d + 1) (by omega) (by omega), if_neg (by omega), E.go hx]
    unfold sh
    simp only
    rw [show s.d + dd + 1 = s.d + 1 + dd by omega]
   have hgp := go_p ht hx
   have hnn : Nx t1 s1 none → oy ≠ some 124 := fun h => by have := ho.det h; cases this
   rcases ia hdk.1 (by omega) e1 (fun _ => hnn) with r1 | ⟨m1, s4, r1, he4⟩
   ·rw [← hdp] at r1
    have hp1 : p0 ≤ s1.p := by omega
    have hx3 := E.nx hp1 ho
    have r2 := R.group hx2 r1 hx3
    have e2 : shut (wrap64 ((sh δ dd s).go.p - 1)) (sh δ dd s1) (some 41) = sh δ dd (shut (wrap64 (s.go.p - 1)) s1 (some 41)) := by
     rw [hsh2]
     unfold shut
     simp only [if_true]
     rw [E.go ho, show (sh δ dd s1).d = s1.d + dd from rfl, ed.2.2, hd.2.1, w64 (by omega) (by omega)]
     unfold sh
     simp only
     rw [show s.d + 1 + dd - 1 = s.d + dd by omega]
    rw [e2] at r2
    exact .inl r2
   ·rw [← hdp] at r1
    have hne := ne14 he4
    refine .inr ⟨_, _, .group hx2 r1 (nx_dead hne), ?_⟩
    unfold shut
    simp only [show (none : Option Int) ≠ some 41 by simp, if_false]
    show (s4.fail _ 9).e = 14
    unfold St.fail
    rw [if_neg hne]
    exact he4
 | leaf hx hc hl => exact .inl (.leaf (E.nx hp hx) hc (E.leaf hx hl hg hp he))
end
theorem cat_end {t : ByteArray} {acc : List RNode} {s s' : St} {n : RNode} (h : R t (.cat acc) s n s') (he : s'.e = 0) : ∃ o, Nx t s' o ∧ (o = none ∨ o = some 124 ∨ (o = some 41 ∧ 0 < s'.d)) := by
 generalize hcl : Cl.cat acc = cl at h
 induction h generalizing acc with
 | catEnd hx ho => exact ⟨_, hx, ho⟩
 | catBad => exact absurd he (fail_ne _ _ _ (by decide))
 | catMore _ _ _ _ _ _ _ _ _ ic => cases hcl; exact ic he rfl
 | _ => cases hcl
theorem altL_end {t : ByteArray} {acc : List RNode} {s s' : St} {n : RNode} (h : R t (.altL acc) s n s') (hs : ∃ o, Nx t s o ∧ (o = none ∨ o = some 124 ∨ (o = some 41 ∧ 0 < s.d))) (he : s'.e = 0) :
  ∃ o, Nx t s' o ∧ (o = none ∨ (o = some 41 ∧ 0 < s'.d)) := by
 generalize hcl : Cl.altL acc = cl at h
 induction h generalizing acc with
 | altEnd hx ho =>
  obtain ⟨o2, hx2, ho2⟩ := hs
  obtain rfl := hx.det hx2
  rcases ho2 with h | h | h
  ·exact ⟨_, hx, .inl h⟩
  ·exact absurd h ho
  ·exact ⟨_, hx, .inr h⟩
 | @altMore s s1 s2 acc n m hx hl hc ha ic ia =>
  cases hcl
  by_cases he1 : s1.e = 0
  ·exact ia (cat_end hc he1) he rfl
  ·have := R_err ha he1 (fun x => by by_cases h : x = Cl.atom; exact .inl (by rw [h]; simp); exact .inr h)
   omega
 | _ => cases hcl
theorem alt_end {t : ByteArray} (ht : (t.size : Int) ≤ 1000000) {s s' : St} {n : RNode} (h : R t .alt s n s') (hg : Good t s) (hd : s.d = 0) (he : s'.e = 0) : Nx t s' none ∧ s'.p = t.size ∧ s'.d = 0 := by
 have hk := R_kp ht h hg
 have h2 := hk.2 he
 have hgd := hk.1 he
 cases h with
 | alt hc ha =>
  have he1 := ((R_kp ht ha (R_kp ht hc hg).1).2 he).1
  obtain ⟨o, hx, ho⟩ := altL_end ha (cat_end hc he1) he
  have : o = none := by
   rcases ho with h | ⟨_, h⟩
   ·exact h
   ·omega
  subst this
  refine ⟨hx, ?_, by omega⟩
  cases hx with
  | non h => rcases h with h | h <;> omega
end Go.Proofs.Ythlffghlkggimaa.Pr
