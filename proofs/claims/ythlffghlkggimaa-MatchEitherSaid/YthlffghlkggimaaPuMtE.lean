/- match: a pattern of two with | between is met where one of the two is. -/
import Derived.Test.YthlffghlkggimaaPuMtC
import Derived.Test.YthlffghlkggimaaPuRxD
set_option linter.unusedVariables false
namespace Go.Proofs.Ythlffghlkggimaa.Pr
open Go Go.RowKit Go.Proofs.YthlffghlkggimaaW.PrintWords Go.Proofs.YthlffghlkggimaaW.PrintLast Go.Proofs.YthlffghlkggimaaW.PrintMore

theorem mtA_app {ch : Nat → Nat} {N : Nat} (a b : List RNode) (i j : Nat) : MtA ch N (a ++ b) i j ↔ MtA ch N a i j ∨ MtA ch N b i j := by
  induction a with
  | nil => rw [List.nil_append]; conv => rhs; lhs; unfold MtA
           simp
  | cons k r ih =>
    rw [List.cons_append]
    conv => lhs; unfold MtA
    conv => rhs; lhs; unfold MtA
    rw [ih, or_assoc]
theorem mt_alt {ch : Nat → Nat} {N : Nat} (l : List RNode) (hl : l ≠ []) (i j : Nat) : Mt ch N (altN l) i j ↔ MtA ch N l i j := match l, hl with
  | [], hl => absurd rfl hl
  | [n], _ => by
    simp only [altN]
    unfold MtA
    unfold MtA
    simp
  | a :: b :: r, _ => by simp only [altN]; rw [Mt_3]
theorem cat_in {t1 t2 : ByteArray} {δ : Int} {oy : Option Int} (E : Emb t1 t2 0 δ 0 oy) {acc : List RNode} {s s' : St} {n : RNode} (h : R t1 (.cat acc) s n s') (hg : Good t1 s) (h0 : 0 ≤ s.p) (he : s'.e = 0) : R t2 (.cat acc) (sh δ 0 s) n (sh δ 0 s') := by
  obtain ⟨m, hm, H⟩ := R_max h E.h1 hg h0 he
  exact (H t2 δ 0 oy E (fun hc => by rcases hc with hc | ⟨_, hc⟩ <;> cases hc)).1 (by omega)
/-- what stands between | and | goes alike in a greater text, whatever was gathered ahead -/
theorem altL_in {t1 t2 : ByteArray} {δ : Int} {oy : Option Int} (E : Emb t1 t2 0 δ 0 oy) {cl : Cl} {s s' : St} {n : RNode} (h : R t1 cl s n s') : ∀ acc, cl = .altL acc → Good t1 s → 0 ≤ s.p → s'.e = 0 → (acc.length : Int) ≤ s.p + 1 →
    ∃ ext, n = altN (acc ++ ext) ∧ (acc.length : Int) + ext.length ≤ s'.p + 1 ∧ ∀ (pre : List RNode) (k : RNode) (s2 : St), pre.length ≤ 1000000 → R t2 (.altL (pre ++ acc ++ ext)) (sh δ 0 s') k s2 → R t2 (.altL (pre ++ acc)) (sh δ 0 s) k s2 := by
  have ht := E.h1
  induction h with
  | altEnd hx ho =>
    intro acc hcl hg h0 he hl
    cases hcl
    exact ⟨[], by simp, by simp; omega, fun pre k s2 _ hr => by simpa using hr⟩
  | @altMore s s1 s2 acc n m hx hlen h1 h2 i1 i2 =>
    intro acc' hcl hg h0 he hl
    cases hcl
    have kg := go_kp ht hg hx
    have k1 := R_kp ht h1 kg.1
    have e1 := (R_kp ht h2 k1.1).2 he
    have e0 := k1.2 e1.1
    have hgp := go_p ht hx
    obtain ⟨ext, rfl, hle, H⟩ := i2 (acc ++ [n]) rfl k1.1 (by omega) he (by simp; omega)
    refine ⟨n :: ext, by simp, by simp at hle ⊢; omega, fun pre k s3 hp hr => ?_⟩
    have hx2 := E.nx h0 hx
    have hc := cat_in E h1 kg.1 (by omega) e1.1
    rw [← E.go hx] at hc
    have hs1p : s1.p ≤ (t1.size : Int) := (k1.1 e1.1).2.2
    refine .altMore hx2 (by rw [List.length_append]; have := E.h1; have := (hg hx.ok.1).2.2; omega) hc ?_
    have := H pre k s3 hp (by simpa using hr)
    simpa using this
  | _ => intro acc hcl; cases hcl
theorem fail_b {s : St} {p e : Int} (he : e ≠ 0) (h : (s.fail p e).e = 0) : False := fail_ne s p e he h
theorem esc_b {s : St} {o : Option Int} (he : (escF s o).2.e = 0) : (escF s o).2.b = s.b := by
  cases o with
  | none => exact (fail_b (by decide) he).elim
  | some c =>
    unfold escF at he ⊢
    simp only at he ⊢
    split at he
    · rename_i h; rw [if_pos h]; rfl
    · rename_i h
      rw [if_neg h]
      split at he
      · rename_i h2; rw [if_pos h2]; rfl
      · rename_i h2
        rw [if_neg h2]
        split at he
        · exact (fail_b (by decide) he).elim
        · rename_i h3; rw [if_neg h3]; rfl
theorem ch_b {t : ByteArray} {s s1 : St} {c c1 : Int} (h : Ch t s c c1 s1) (he : s1.e = 0) : s1.b = s.b := by
  cases h with
  | plain => rfl
  | esc _ => exact esc_b he
theorem rg_b {t : ByteArray} {fr : Int} {s s2 : St} {c z : Int} (h : Rg t fr s c z s2) (he : s2.e = 0) : s2.b = s.b := by
  cases h with
  | no => rfl
  | yes _ _ _ _ _ _ hch =>
    split at he
    · exact (fail_b (by decide) he).elim
    · rename_i hz
      rw [if_neg hz]
      have h := ch_b hch he
      exact h
theorem sl_b {t : ByteArray} {fr : Int} {f : Bool} {w w' : RSet} {s s' : St} (h : SL t fr f w s w' s') (hg : Good t s) (ht : (t.size : Int) ≤ 1000000) (he : s'.e = 0) : s'.b = s.b := by
  induction h with
  | bad => exact (fail_b (by decide) he).elim
  | close => rfl
  | more hx _ hc hr hs ih =>
    have k0 := go_kp ht hg hx
    have k1 := ch_kp ht k0.1 hc
    have k2 := rg_kp ht k1.1 hr
    have k3 := sl_kp ht hs k2.1
    have e2 := (k3.2 he).1
    have e1 := (k2.2 e2).1
    have h1 := ch_b hc e1
    exact (ih k2.1 he).trans ((rg_b hr e2).trans h1)
theorem leaf_b {t : ByteArray} (ht : (t.size : Int) ≤ 1000000) {s s' : St} {c : Int} {n : RNode} (hg : Good t s) (hx : Nx t s (some c)) (h : Leaf t s c n s') (he : s'.e = 0) : s'.b = s.b := by
  have kg := go_kp ht hg hx
  cases h with
  | set hs =>
    cases hs with
    | neg hn hl => exact (sl_b hl (go_kp ht kg.1 hn).1 ht he).trans rfl
    | pos _ _ hl => exact (sl_b hl kg.1 ht he).trans rfl
  | sign _ => exact (fail_b (by decide) he).elim
  | esc _ => exact (esc_b he).trans rfl
  | _ => rfl
theorem R_b {t : ByteArray} (ht : (t.size : Int) ≤ 1000000) {cl : Cl} {s s' : St} {n : RNode} (h : R t cl s n s') (hg : Good t s) (he : s'.e = 0) : s'.b = s.b := by
  induction h with
  | @alt s s1 s2 n m h1 h2 i1 i2 =>
    have k1 := R_kp ht h1 hg
    have e1 := (R_kp ht h2 k1.1).2 he
    exact (i2 k1.1 he).trans (i1 hg e1.1)
  | @altMore s s1 s2 acc n m hx hl h1 h2 i1 i2 =>
    have kg := go_kp ht hg hx
    have k1 := R_kp ht h1 kg.1
    have e1 := (R_kp ht h2 k1.1).2 he
    exact (i2 k1.1 he).trans ((i1 kg.1 e1.1).trans rfl)
  | altEnd => rfl
  | catEnd => rfl
  | catBad => exact (fail_b (by decide) he).elim
  | @catMore s s1 s2 s3 acc n m r c hx h1 h2 hl hat hs hc ia is ic =>
    have k1 := R_kp ht hat hg
    have k2 := R_kp ht hs k1.1
    have k3 := R_kp ht hc k2.1
    have e2 := k3.2 he
    have e1 := k2.2 e2.1
    exact (ic k2.1 he).trans ((is k1.1 e2.1).trans (ia hg e1.1))
  | @signsMore s s' n m c op hx ho hs is =>
    have kg := go_kp ht hg hx
    exact (is kg.1 he).trans rfl
  | signsEnd => rfl
  | @group s s1 n o hx hal ho ia =>
    have hdk := deeper_kp ht hg hx
    have ka := R_kp ht hal hdk.1
    obtain ⟨ksh, hsh⟩ := shut_kp ht hg hx ka ho
    obtain ⟨rfl, e1, hd20, hsh2⟩ := hsh he
    have ed := ka.2 e1
    rw [hsh2]
    have hb := ia hdk.1 e1
    have : (deeper s).b = s.b := by
      have hde := ed.1
      unfold deeper at hde ⊢
      simp only at hde ⊢
      split at hde
      · exact (fail_b (by decide) hde).elim
      · rename_i h; rw [if_neg h]; rfl
    exact hb.trans this
  | leaf hx _ hl => exact leaf_b ht hg hx hl he
theorem emb_front (u v : List UInt8) (hl : u.length + v.length ≤ 1000) : Emb (B u) (B (u ++ 124 :: v)) 0 0 0 (some 124) := by
  have hL : (u ++ 124 :: v).length = u.length + v.length + 1 := by simp; omega
  refine ⟨fun p _ h0 h1 => ?_, by rw [B_size, B_size, hL]; omega, .inr ⟨?_, by rw [B_size, B_size, hL]; omega⟩, .inr (.inl rfl), by rw [B_size]; omega, by rw [B_size, hL]; omega, by omega, by omega, by omega, by omega⟩
  · rw [B_size] at h1
    obtain ⟨k, rfl⟩ := Int.eq_ofNat_of_zero_le h0
    rw [show ((k : Int) + 0) = ((k : Nat) : Int) by omega, bt_B _ _ (by omega), bt_B _ k (by omega), List.getElem_append_left (by omega)]
  · rw [B_size, show ((u.length : Int) + 0) = ((u.length : Nat) : Int) by omega, bt_B _ _ (by omega), List.getElem_append_right (Nat.le_refl _)]
    simp
theorem emb_back (u v : List UInt8) (hl : u.length + v.length ≤ 1000) : Emb (B v) (B (u ++ 124 :: v)) 0 (u.length + 1 : Nat) 0 none := by
  have hL : (u ++ 124 :: v).length = u.length + v.length + 1 := by simp; omega
  refine ⟨fun p _ h0 h1 => ?_, by rw [B_size, B_size, hL]; omega, .inl ⟨rfl, by rw [B_size, B_size, hL]; omega⟩, .inl rfl, by rw [B_size]; omega, by rw [B_size, hL]; omega, by omega, by omega, by omega, by omega⟩
  rw [B_size] at h1
  obtain ⟨k, rfl⟩ := Int.eq_ofNat_of_zero_le h0
  rw [show ((k : Int) + ((u.length + 1 : Nat) : Int)) = ((u.length + 1 + k : Nat) : Int) by omega, bt_B _ _ (by omega), bt_B _ k (by omega), List.getElem_append_right (by omega)]
  simp [show u.length + 1 + k - u.length = k + 1 by omega]
theorem either_parse (u v : List UInt8) (hl : u.length + v.length ≤ 1000) {n m : RNode} {su sv : St} (hu : R (B u) .alt s0 n su) (heu : su.e = 0) (hv : R (B v) .alt s0 m sv) (hev : sv.e = 0) :
    ∃ k s2, R (B (u ++ 124 :: v)) .alt s0 k s2 ∧ s2.e = 0 ∧ ∀ (ch : Nat → Nat) (N i j : Nat), Mt ch N k i j ↔ Mt ch N n i j ∨ Mt ch N m i j := by
  have Eu := emb_front u v hl
  have Ev := emb_back u v hl
  have gu := s0_good (B u)
  have gv := s0_good (B v)
  have endu := alt_end Eu.h1 hu gu rfl heu
  have endv := alt_end Ev.h1 hv gv rfl hev
  have hsu := R_kp Eu.h1 hu gu
  have hsv := R_kp Ev.h1 hv gv
  cases hu with
  | @alt _ s1 _ n1 _ hc1 ha1 =>
    cases hv with
    | @alt _ s3 _ m1 _ hc2 ha2 =>
      have ku := R_kp Eu.h1 hc1 gu
      have kv := R_kp Ev.h1 hc2 gv
      have eu1 := ((R_kp Eu.h1 ha1 ku.1).2 heu)
      have ev1 := ((R_kp Ev.h1 ha2 kv.1).2 hev)
      have eu0 := ku.2 eu1.1
      have ev0 := kv.2 ev1.1
      have p0 : s0.p = 0 := rfl
      have c1 := cat_in Eu hc1 gu (Int.le_refl _) eu1.1
      have c2 := cat_in Ev hc2 gv (Int.le_refl _) ev1.1
      obtain ⟨x1, rfl, l1, H1⟩ := altL_in Eu ha1 [n1] rfl ku.1 (by omega) heu (by simp; omega)
      obtain ⟨x2, rfl, l2, H2⟩ := altL_in Ev ha2 [m1] rfl kv.1 (by omega) hev (by simp; omega)
      have sh0 : ∀ s : St, sh 0 0 s = s := fun s => by unfold sh; simp
      rw [sh0] at c1 H1
      rw [sh0] at c1 H1
      have nxU := (Eu.nxEnd endu.1 heu hsu.1).1
      rw [sh0] at nxU
      have nxV := (Ev.nxEnd endv.1 hev hsv.1).1
      have hgo : sh ((u.length + 1 : Nat) : Int) 0 s0 = (⟨su.p, su.d, su.e, su.b⟩ : St).go ∨ True := .inr trivial
      have hsu2 : (u.length : Int) = su.p := by rw [endu.2.1, B_size]
      have hb : ∀ {t : ByteArray} {cl : Cl} {a c : St} {q : RNode}, R t cl a q c → c.e = 0 → True := fun _ _ => trivial
      have last := R.altEnd (acc := (n1 :: x1) ++ ([m1] ++ x2)) nxV (by simp)
      have hlenu : (n1 :: x1).length ≤ 1000000 := by
        have := endu.2.1
        rw [B_size] at this
        simp at l1 ⊢
        omega
      have r2 := H2 (n1 :: x1) _ _ hlenu (by simpa using last)
      refine ⟨altN ((n1 :: x1) ++ ([m1] ++ x2)), sh ((u.length + 1 : Nat) : Int) 0 sv, ?_, hev, fun ch N i j => ?_⟩
      · have more := R.altMore (acc := n1 :: x1) (s := su) (n := m1) nxU (by omega) (s1 := sh ((u.length + 1 : Nat) : Int) 0 s3) (by
          have hgo : su.go = ⟨((u.length + 1 : Nat) : Int), 0, 0, su.b⟩ := by
            unfold St.go
            rw [← hsu2, endu.2.2, heu, w64 (by omega) (by omega)]
            rfl
          have hb2 : su.b = 0 := by
            have := R_b Eu.h1 ha1 ku.1 heu
            have h2 := R_b Eu.h1 hc1 gu eu1.1
            rw [this, h2]
            rfl
          rw [hgo, hb2]
          have e0 : sh ((u.length + 1 : Nat) : Int) 0 s0 = (⟨((u.length + 1 : Nat) : Int), 0, 0, 0⟩ : St) := by unfold sh s0; simp
          rw [← e0]
          exact c2) r2
        have := H1 [] _ _ (by simp) (by simpa using more)
        exact .alt c1 (by simpa using this)
      · rw [mt_alt _ (by simp), mt_alt _ (by simp), mt_alt _ (by simp), mtA_app]
        simp
end Go.Proofs.Ythlffghlkggimaa.Pr
