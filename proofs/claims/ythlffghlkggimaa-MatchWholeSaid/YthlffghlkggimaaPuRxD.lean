/- regex: how deep a pattern's groups stand decides, alike in every text, whether it is too deep there. -/
import Derived.Test.YthlffghlkggimaaPuRxG0
set_option linter.unusedVariables false
namespace Go.Proofs.Ythlffghlkggimaa.Pr
open Go Go.RowKit Go.Proofs.YthlffghlkggimaaW.PrintWords Go.Proofs.YthlffghlkggimaaW.PrintLast Go.Proofs.YthlffghlkggimaaW.PrintMore
theorem dead_group {t : ByteArray} {s s4 : St} {m : RNode} (hx : Nx t s (some 40)) (r : R t .alt (deeper s) m s4) (h : s4.e = 14) : Dp t .atom s := by
 have hne := ne14 h
 refine ⟨_, _, .group hx r (nx_dead hne), ?_⟩
 unfold shut
 simp only [show (none : Option Int) ≠ some 41 by simp, if_false]
 show (s4.fail _ 9).e = 14
 unfold St.fail
 rw [if_neg hne]
 exact h
def isAlt (cl : Cl) : Prop := cl = .alt ∨ ∃ acc, cl = .altL acc
theorem R_max {t1 : ByteArray} {cl : Cl} {s s' : St} {n : RNode} (h : R t1 cl s n s') (ht : (t1.size : Int) ≤ 1000000) (hg : Good t1 s) (h0 : 0 ≤ s.p) (he : s'.e = 0) :
  ∃ m : Int, m ≤ 20 ∧ ∀ (t2 : ByteArray) (δ dd : Int) (oy : Option Int), Emb t1 t2 0 δ dd oy → (isAlt cl → Nx t1 s' none → oy ≠ some 124) →
   (m + dd ≤ 20 → R t2 cl (sh δ dd s) n (sh δ dd s')) ∧ (20 < m + dd → Dp t2 cl (sh δ dd s)) := by
 have lo : ∀ {dd : Int} {P : Prop}, dd ≤ 1000000 → 20 < -100000000 + dd → P := fun h h' => by omega
 have na : ∀ {c : Cl}, ¬ isAlt c → ∀ {P : Prop}, isAlt c → P := fun h _ h' => absurd h' h
 have nc : ∀ acc, ¬ isAlt (.cat acc) := fun acc h => by rcases h with h | ⟨_, h⟩ <;> cases h
 have ns : ∀ n, ¬ isAlt (.signs n) := fun acc h => by rcases h with h | ⟨_, h⟩ <;> cases h
 have nat : ¬ isAlt .atom := fun h => by rcases h with h | ⟨_, h⟩ <;> cases h
 induction h with
 | @alt s s1 s2 n m h1 h2 i1 i2 =>
  have k1 := R_kp ht h1 hg
  have e1 := (R_kp ht h2 k1.1).2 he
  have e0 := k1.2 e1.1
  obtain ⟨m1, l1, H1⟩ := i1 hg h0 e1.1
  obtain ⟨m2, l2, H2⟩ := i2 k1.1 (by omega) he
  refine ⟨max m1 m2, by omega, fun t2 δ dd oy E ha => ?_⟩
  have a1 := H1 t2 δ dd oy E (na (nc _))
  have a2 := H2 t2 δ dd oy E (fun _ => ha (.inl rfl))
  refine ⟨fun h => .alt (a1.1 (by omega)) (a2.1 (by omega)), fun h => ?_⟩
  by_cases b : 20 < m1 + dd
  ·obtain ⟨x, s3, r, e3⟩ := a1.2 b
   exact ⟨_, s3, .alt r (dead_altL (ne14 e3) _), e3⟩
  ·obtain ⟨x, s3, r, e3⟩ := a2.2 (by omega)
   exact ⟨_, s3, .alt (a1.1 (by omega)) r, e3⟩
 | @altMore s s1 s2 acc n m hx hl h1 h2 i1 i2 =>
  have kg := go_kp ht hg hx
  have k1 := R_kp ht h1 kg.1
  have e1 := (R_kp ht h2 k1.1).2 he
  have e0 := k1.2 e1.1
  have hgp := go_p ht hx
  obtain ⟨m1, l1, H1⟩ := i1 kg.1 (by omega) e1.1
  obtain ⟨m2, l2, H2⟩ := i2 k1.1 (by omega) he
  refine ⟨max m1 m2, by omega, fun t2 δ dd oy E ha => ?_⟩
  have a1 := H1 t2 δ dd oy E (na (nc _))
  have a2 := H2 t2 δ dd oy E (fun _ => ha (.inr ⟨_, rfl⟩))
  have hx2 := E.nx h0 hx
  rw [← E.go hx] at a1
  refine ⟨fun h => .altMore hx2 hl (a1.1 (by omega)) (a2.1 (by omega)), fun h => ?_⟩
  by_cases b : 20 < m1 + dd
  ·obtain ⟨x, s3, r, e3⟩ := a1.2 b
   exact ⟨_, s3, .altMore hx2 hl r (dead_altL (ne14 e3) _), e3⟩
  ·obtain ⟨x, s3, r, e3⟩ := a2.2 (by omega)
   exact ⟨_, s3, .altMore hx2 hl (a1.1 (by omega)) r, e3⟩
 | @altEnd s acc o hx ho =>
  refine ⟨-100000000, by omega, fun t2 δ dd oy E ha => ⟨fun _ => ?_, lo E.b4⟩⟩
  cases o with
  | none => exact .altEnd (E.nxEnd hx he hg).1 (ha (.inr ⟨_, rfl⟩) hx)
  | some c => exact .altEnd (E.nx h0 hx) ho
 | @catEnd s acc o hx ho =>
  refine ⟨-100000000, by omega, fun t2 δ dd oy E ha => ⟨fun _ => ?_, lo E.b4⟩⟩
  have hd := hg he
  have hb := E.b3
  cases o with
  | none =>
   have hx2 := (E.nxEnd hx he hg).1
   refine .catEnd hx2 ?_
   rcases E.stop with h | h | ⟨h, hdd⟩
   ·exact .inl h
   ·exact .inr (.inl h)
   ·exact .inr (.inr ⟨h, by show 0 < s.d + dd; omega⟩)
  | some c =>
   refine .catEnd (E.nx h0 hx) ?_
   rcases ho with h | h | ⟨h, hh⟩
   ·cases h
   ·exact .inr (.inl h)
   ·exact .inr (.inr ⟨h, by show 0 < s.d + dd; omega⟩)
 | catBad => exact absurd he (fail_ne _ _ _ (by decide))
 | @catMore s s1 s2 s3 acc n m r c hx h1 h2 hl hat hs hc ia is ic =>
  have k1 := R_kp ht hat hg
  have k2 := R_kp ht hs k1.1
  have k3 := R_kp ht hc k2.1
  have e2 := k3.2 he
  have e1 := k2.2 e2.1
  have e0 := k1.2 e1.1
  obtain ⟨m1, l1, H1⟩ := ia hg h0 e1.1
  obtain ⟨m2, l2, H2⟩ := is k1.1 (by omega) e2.1
  obtain ⟨m3, l3, H3⟩ := ic k2.1 (by omega) he
  refine ⟨max m1 (max m2 m3), by omega, fun t2 δ dd oy E ha => ?_⟩
  have a1 := H1 t2 δ dd oy E (na nat)
  have a2 := H2 t2 δ dd oy E (na (ns _))
  have a3 := H3 t2 δ dd oy E (na (nc _))
  have hx2 := E.nx h0 hx
  refine ⟨fun h => .catMore hx2 h1 h2 hl (a1.1 (by omega)) (a2.1 (by omega)) (a3.1 (by omega)), fun h => ?_⟩
  by_cases b : 20 < m1 + dd
  ·obtain ⟨x, s4, r, e4⟩ := a1.2 b
   exact ⟨_, s4, .catMore hx2 h1 h2 hl r (dead_signs (ne14 e4) _) (dead_cat (ne14 e4) _), e4⟩
  ·by_cases b2 : 20 < m2 + dd
   ·obtain ⟨x, s4, r, e4⟩ := a2.2 b2
    exact ⟨_, s4, .catMore hx2 h1 h2 hl (a1.1 (by omega)) r (dead_cat (ne14 e4) _), e4⟩
   ·obtain ⟨x, s4, r, e4⟩ := a3.2 (by omega)
    exact ⟨_, s4, .catMore hx2 h1 h2 hl (a1.1 (by omega)) (a2.1 (by omega)) r, e4⟩
 | @signsMore s s' n m c op hx ho hs is =>
  have kg := go_kp ht hg hx
  have hgp := go_p ht hx
  obtain ⟨m1, l1, H1⟩ := is kg.1 (by omega) he
  refine ⟨m1, l1, fun t2 δ dd oy E ha => ?_⟩
  have a1 := H1 t2 δ dd oy E (na (ns _))
  rw [← E.go hx] at a1
  refine ⟨fun h => .signsMore (E.nx h0 hx) ho (a1.1 h), fun h => ?_⟩
  obtain ⟨x, s4, r, e4⟩ := a1.2 h
  exact ⟨x, s4, .signsMore (E.nx h0 hx) ho r, e4⟩
 | @signsEnd s n o hx ho =>
  refine ⟨-100000000, by omega, fun t2 δ dd oy E ha => ⟨fun _ => ?_, lo E.b4⟩⟩
  cases o with
  | none => exact .signsEnd (E.nxEnd hx he hg).1 E.opNone
  | some c => exact .signsEnd (E.nx h0 hx) ho
 | @group s s1 n o hx hal ho ia =>
  have hdk := deeper_kp ht hg hx
  have ka := R_kp ht hal hdk.1
  obtain ⟨ksh, hsh⟩ := shut_kp ht hg hx ka ho
  obtain ⟨rfl, e1, hd20, hsh2⟩ := hsh he
  have ed := ka.2 e1
  have hd := hdk.2 ed.1
  have h1 := hx.ok
  have hgs := hg h1.1
  have hgp := go_p ht hx
  obtain ⟨m1, l1, H1⟩ := ia hdk.1 (by omega) e1
  refine ⟨max (s.d + 1) m1, by omega, fun t2 δ dd oy E ha => ?_⟩
  have hx2 := E.nx h0 hx
  have hb3 := E.b3
  have hb4 := E.b4
  have hb1 := E.b1
  have hb2 := E.b2
  have hnn : Nx t1 s1 none → oy ≠ some 124 := fun h => by have := ho.det h; cases this
  have a1 := H1 t2 δ dd oy E (fun _ => hnn)
  by_cases hdeep : 20 < s.d + dd + 1
  ·refine ⟨fun h => by omega, fun _ => ?_⟩
   have h14 : (deeper (sh δ dd s)).e = 14 := by
    unfold deeper
    simp only
    rw [show (sh δ dd s).d = s.d + dd from rfl, w64 (n := s.d + dd + 1) (by omega) (by omega), if_pos hdeep]
    unfold St.fail
    rw [if_pos (show (sh δ dd s).go.e = 0 from h1.1)]
   exact dead_group hx2 (dead_alt (ne14 h14)) h14
  ·have hdp : deeper (sh δ dd s) = sh δ dd (deeper s) := by
    unfold deeper
    simp only
    rw [show (sh δ dd s).d = s.d + dd from rfl, w64 (n := s.d + dd + 1) (by omega) (by omega), if_neg hdeep, w64 (n := s.d + 1) (by omega) (by omega), if_neg (by omega), E.go hx]
    unfold sh
    simp only
    rw [show s.d + dd + 1 = s.d + 1 + dd by omega]
   rw [← hdp] at a1
   refine ⟨fun h => ?_, fun h => ?_⟩
   ·have hx3 := E.nx (by omega) ho
    have r2 := R.group hx2 (a1.1 (by omega)) hx3
    have e2 : shut (wrap64 ((sh δ dd s).go.p - 1)) (sh δ dd s1) (some 41) = sh δ dd (shut (wrap64 (s.go.p - 1)) s1 (some 41)) := by
     rw [hsh2]
     unfold shut
     simp only [if_true]
     rw [E.go ho, show (sh δ dd s1).d = s1.d + dd from rfl, ed.2.2, hd.2.1, w64 (by omega) (by omega)]
     unfold sh
     simp only
     rw [show s.d + 1 + dd - 1 = s.d + dd by omega]
    rw [e2] at r2
    exact r2
   ·obtain ⟨x, s4, r, e4⟩ := a1.2 (by omega)
    exact dead_group hx2 r e4
 | leaf hx hc hl =>
  exact ⟨-100000000, by omega, fun t2 δ dd oy E ha => ⟨fun _ => .leaf (E.nx h0 hx) hc (E.leaf hx hl hg h0 he), lo E.b4⟩⟩
theorem emb_group (u sg : List UInt8) (hl : u.length + sg.length ≤ 10000) : Emb (B u) (B (40 :: (u ++ 41 :: sg))) 0 1 1 (some 41) := by
 have hL : (40 :: (u ++ 41 :: sg)).length = u.length + sg.length + 2 := by simp; omega
 refine ⟨fun p _ h0 h1 => ?_, by rw [B_size, B_size, hL]; omega, .inr ⟨?_, by rw [B_size, B_size, hL]; omega⟩, .inr (.inr ⟨rfl, by omega⟩), by rw [B_size]; omega, by rw [B_size, hL]; omega, by omega, by omega, by omega, by omega⟩
 ·rw [B_size] at h1
  obtain ⟨k, rfl⟩ := Int.eq_ofNat_of_zero_le h0
  rw [show ((k : Int) + 1) = ((k + 1 : Nat) : Int) by omega, bt_B _ _ (by omega), bt_B _ k (by omega), List.getElem_cons_succ, List.getElem_append_left (by omega)]
 ·rw [B_size, show ((u.length : Int) + 1) = ((u.length + 1 : Nat) : Int) by omega, bt_B _ _ (by omega), List.getElem_cons_succ, List.getElem_append_right (Nat.le_refl _)]
  simp
theorem s0_go : s0.go = ⟨1, 0, 0, 0⟩ := by show (⟨wrap64 ((0 : Int) + 1), 0, 0, 0⟩ : St) = _; rw [w64 (by omega) (by omega)]; rfl
theorem s0_deep : deeper s0 = sh 1 1 s0 := by
 unfold deeper
 simp only
 have hw : wrap64 (s0.d + 1) = 1 := by show wrap64 ((0 : Int) + 1) = 1; rw [w64 (by omega) (by omega)]; rfl
 rw [s0_go, hw, if_neg (by omega)]
 rfl
theorem group_both (u : List UInt8) {n : RNode} {s' : St} (hR : R (B u) .alt s0 n s') (he : s'.e = 0) (hlu : u.length ≤ 5000) : ∃ m : Int, ∀ sg : List UInt8, (∀ c ∈ sg, isSg c) → u.length + sg.length ≤ 10000 →
  (m ≤ 19 → ∃ s2, R (B (40 :: (u ++ 41 :: sg))) .alt s0 (wrapN n sg) s2 ∧ s2.e = 0) ∧ (19 < m → ∃ k s2, R (B (40 :: (u ++ 41 :: sg))) .alt s0 k s2 ∧ s2.e = 14) := by
 have hgood := s0_good (B u)
 obtain ⟨m, _, H⟩ := R_max hR (by rw [B_size]; omega) hgood (Int.le_refl _) he
 refine ⟨m, fun sg hs hl => ?_⟩
 have E := emb_group u sg hl
 have hL : (40 :: (u ++ 41 :: sg)).length = u.length + sg.length + 2 := by simp; omega
 have hend := alt_end E.h1 hR hgood rfl he
 have hx0 : Nx (B (40 :: (u ++ 41 :: sg))) s0 (some 40) := nx_B rfl 0 rfl (by omega)
 have a := H _ 1 1 _ E (fun _ _ h => by cases h)
 rw [← s0_deep] at a
 refine ⟨fun h => ?_, fun h => ?_⟩
 ·have r1 := a.1 (by omega)
  have hx1 := (E.nxEnd hend.1 he (R_kp E.h1 hR hgood).1).1
  have ra := R.group hx0 r1 hx1
  have e3 : shut (wrap64 (s0.go.p - 1)) (sh 1 1 s') (some 41) = ⟨((40 :: (u ++ [41])).length : Nat), 0, 0, s'.b⟩ := by
   unfold shut
   simp only [if_true]
   show (⟨wrap64 (s'.p + 1 + 1), wrap64 (s'.d + 1 - 1), s'.e, s'.b⟩ : St) = _
   rw [hend.2.1, hend.2.2, he, B_size, w64 (by omega) (by omega), w64 (by omega) (by omega)]
   simp
  rw [e3] at ra
  have eL : 40 :: (u ++ 41 :: sg) = (40 :: (u ++ [41])) ++ sg := by simp
  have rs := signs_run (40 :: (u ++ [41])) sg hs (by simp; omega) 0 s'.b n
  rw [← eL] at rs
  have hxe : Nx (B (40 :: (u ++ 41 :: sg))) ⟨((40 :: (u ++ [41])).length + sg.length : Nat), 0, 0, s'.b⟩ none := nx_end (by rw [hL]; simp; omega)
  exact ⟨_, .alt (.catMore hx0 (by decide) (by decide) (by decide) ra rs (.catEnd hxe (.inl rfl))) (.altEnd (acc := [_]) hxe (by simp)), rfl⟩
 ·obtain ⟨x, s2, r1, h14⟩ := a.2 (by omega)
  have hne := ne14 h14
  have ra := R.group hx0 r1 (nx_dead hne)
  have h5 : (shut (wrap64 (s0.go.p - 1)) s2 none).e = 14 := by
   unfold shut
   simp only [show (none : Option Int) ≠ some 41 by simp, if_false]
   show (s2.fail _ 9).e = 14
   unfold St.fail
   rw [if_neg hne]
   exact h14
  have hne2 := ne14 h5
  exact ⟨_, _, .alt (.catMore hx0 (by decide) (by decide) (by decide) ra (dead_signs hne2 _) (dead_cat hne2 _)) (dead_altL hne2 _), h5⟩
end Go.Proofs.Ythlffghlkggimaa.Pr
