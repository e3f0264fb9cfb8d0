/- A set behind ^ is all other bytes: the pure statement. -/
import Derived.Test.YtdjnjhmmpjbbaaaPuRxN
import Derived.Test.YtdjnjhmmpjbbaaaPuRxE
import Derived.Test.YtdjnjhmmpjbbaaaPuF
import Derived.Test.YtdjnjhmmpjbbaaaPr12
namespace Go.Proofs.Ytdjnjhmmpjbbaaa.Pr
open Go Go.RowKit Go.Proofs.YtdjnjhmmpjbbaaaW.PrintWords Go.Proofs.YtdjnjhmmpjbbaaaW.PrintLast Go.Proofs.YtdjnjhmmpjbbaaaW.PrintMore

theorem awake9_ev : Ev (fun k => scribelaw09_awake.f k) true := Ev.of (fun k => scribelaw09_awake.mono k) (k := 30) (by decide +kernel)
theorem cut_B (a : ByteArray) (n : Nat) : scribelaw01_Cut.f a (n : Int) = some (B (a.data.toList.take n)) := by
  unfold scribelaw01_Cut.f
  have hs : a.data.toList.length = a.size := Array.length_toList
  by_cases h : (a.size : Int) > (n : Int)
  · rw [if_pos h, if_pos (by omega), if_pos (by omega)]
    congr 1
    apply B_ext
    rw [Lib.extract_data, Int.toNat_natCast]
    rfl
  · rw [if_neg h, List.take_of_length_le (by omega), B_eta]
theorem bt_out (l : List UInt8) (p : Int) (h : (l.length : Int) ≤ p) : bt (B l) p = 0 := by
  unfold bt
  rw [dif_neg]
  rw [B_size]
  omega
theorem bt_at_nat (l : List UInt8) (p : Int) (h0 : 0 ≤ p) (h1 : p < (l.length : Int)) : bt (B l) p = ((l[p.toNat]'(by omega)).toNat : Int) := by
  obtain ⟨k, rfl⟩ := Int.eq_ofNat_of_zero_le h0
  exact bt_B l k (by omega)
/-- a parse that is known, as the law sees it -/
theorem parse_of {t : ByteArray} (ht : (t.size : Int) ≤ 300) {n : RNode} {s : St} (h : R t .alt s0 n s) :
    Ev (fun k => regex_Parse.f k t) (if s.e = 0 then (n.f0, n.f1.f0, n.f1.f1, n.f1.f2, n.f1.f3, n.f2, 0, 0) else (0, 0, 0, 0, 0, [], s.b, s.e)) := parse_ev ht h
theorem nots_true (b0 b1 b2 b3 b4 : Int) (b5 : List RNode) (c0 c1 c2 c3 c4 : Int) (c5 : List RNode) : Ev (fun k => scribelaw09_RegexNots.j0 k true b0 b1 b2 b3 b4 b5 c0 c1 c2 c3 c4 c5) true := by
  refine Ev.succ ?_
  simp only [scribelaw09_RegexNots.j0]
  exact Ev.yes (Ev.bind' awake9_ev (Ev.now _))
theorem RegexNots_ev (a : ByteArray) (_h : a.size ≤ 140737488351232) : Ev (fun k => scribelaw09_RegexNots.f k a) true := by
  unfold scribelaw09_RegexNots.f
  refine Ev.bindc (cut_B a 40) ?_
  generalize hu : a.data.toList.take 40 = u
  have hl : u.length ≤ 40 := by rw [← hu]; exact List.length_take_le _ _
  have e1 : ((⟨#[91]⟩ : ByteArray) ++ B u) ++ (⟨#[93]⟩ : ByteArray) = B (91 :: (u ++ [93])) := by
    rw [B_lit [91], B_lit [93], B_append, B_append]; rfl
  have e2 : ((⟨#[91, 94]⟩ : ByteArray) ++ B u) ++ (⟨#[93]⟩ : ByteArray) = B (91 :: 94 :: (u ++ [93])) := by
    rw [B_lit [91, 94], B_lit [93], B_append, B_append]; rfl
  rw [e1, e2]
  rw [B_lit [91], B_lit [91, 94], B_append, B_append]
  simp only [B_size]
  have L1 : (91 :: (u ++ [93])).length = u.length + 2 := by simp
  have L2 : (91 :: 94 :: (u ++ [93])).length = u.length + 3 := by simp
  refine Ev.pos (by omega) (Ev.pos (by simp only [List.length_append, List.length_cons, List.length_nil]; omega) ?_)
  obtain ⟨n, s', hR, hk⟩ := alt_total (B (91 :: (u ++ [93]))) (by rw [B_size, L1]; omega)
  refine Ev.bind' (parse_of (by rw [B_size, L1]; omega) hR) (Ev.pos (by omega) (Ev.pos (by simp only [List.length_append, List.length_cons, List.length_nil]; omega) ?_))
  by_cases hgood : s'.e = 0 ∧ n.f0 = 1 ∧ ¬ (0 < u.length ∧ bt (B u) 0 = 94)
  · obtain ⟨he, h1, h94⟩ := hgood
    have hx1 : Nx (B (91 :: (u ++ [93]))) s0 (some 91) := by
      have := Nx.som (t := B (91 :: (u ++ [93]))) (s := s0) rfl (Int.le_refl _) (by rw [B_size, L1]; show (0 : Int) < _; omega)
      rwa [show bt (B (91 :: (u ++ [93]))) s0.p = 91 from rfl] at this
    obtain ⟨w, hset, rfl, o, ho, ho1, ho2⟩ := set_only hx1 hR he h1
    have hx2 : Nx (B (91 :: 94 :: (u ++ [93]))) s0 (some 91) := by
      have := Nx.som (t := B (91 :: 94 :: (u ++ [93]))) (s := s0) rfl (Int.le_refl _) (by rw [B_size, L2]; show (0 : Int) < _; omega)
      rwa [show bt (B (91 :: 94 :: (u ++ [93]))) s0.p = 91 from rfl] at this
    have g1 : s0.go = ⟨1, 0, 0, 0⟩ := by show (⟨wrap64 ((0 : Int) + 1), 0, 0, 0⟩ : St) = _; rw [w64 (by omega) (by omega)]; rfl
    have g2 : s0.go.go = ⟨2, 0, 0, 0⟩ := by rw [g1]; show (⟨wrap64 ((1 : Int) + 1), 0, 0, 0⟩ : St) = _; rw [w64 (by omega) (by omega)]; rfl
    have hx3 : Nx (B (91 :: 94 :: (u ++ [93]))) s0.go (some 94) := by
      have := Nx.som (t := B (91 :: 94 :: (u ++ [93]))) (s := s0.go) rfl (by rw [g1]; show (0 : Int) ≤ 1; omega) (by rw [B_size, L2, g1]; show (1 : Int) < _; omega)
      rwa [show bt (B (91 :: 94 :: (u ++ [93]))) s0.go.p = 94 by rw [g1]; rfl] at this
    have E : Emb (B (91 :: (u ++ [93]))) (B (91 :: 94 :: (u ++ [93]))) 1 1 0 none := by
      refine ⟨fun p h1 h0 h2 => ?_, by simp only [B_size, L1, L2]; omega, .inl ⟨rfl, by simp only [B_size, L1, L2]; omega⟩, .inl rfl, by simp only [B_size, L1]; omega, by simp only [B_size, L2]; omega, by omega, by omega, by omega, by omega⟩
      rw [B_size] at h2
      rw [bt_at_nat _ _ (by omega) (by rw [L2]; rw [L1] at h2; omega), bt_at_nat _ _ h0 h2]
      obtain ⟨k, rfl⟩ : ∃ k : Nat, p = (k : Int) + 1 := ⟨(p - 1).toNat, by omega⟩
      simp only [show ((k : Int) + 1 + 1).toNat = k + 2 by omega, show ((k : Int) + 1).toNat = k + 1 by omega, List.getElem_cons_succ]
    have hgood1 := s0_good (B (91 :: (u ++ [93])))
    have ht1 := E.h1
    have hgo := go_good ht1 hgood1 hx1
    have hsl : SL (B (91 :: (u ++ [93]))) (wrap64 (s0.go.p - 1)) true zW s0.go w s' := by
      cases hset with
      | pos _ _ h => exact h
      | neg hx _ =>
        exfalso
        have hb := hx.ok.2.2.2
        cases u with
        | nil => rw [g1] at hb; revert hb; decide
        | cons c r =>
          refine h94 ⟨by simp, ?_⟩
          have : bt (B (91 :: (c :: r ++ [93]))) s0.go.p = bt (B (c :: r)) 0 := by
            rw [show s0.go.p = ((1 : Nat) : Int) by rw [g1]; rfl, show (0 : Int) = ((0 : Nat) : Int) from rfl, bt_B _ _ (by simp), bt_B _ _ (by simp)]
            rfl
          rw [← this]
          exact hb
    have hsl2 := E.sl (wrap64 (s0.go.p - 1)) hsl hgo (by rw [g1]; show (1 : Int) ≤ 1; omega) he
    have hset2 : SetR (B (91 :: 94 :: (u ++ [93]))) s0.go (notW w) (sh 1 0 s') := by
      refine .neg hx3 ?_
      rw [show s0.go.go = sh 1 0 s0.go by rw [g2, g1]; rfl]
      exact hsl2
    have hgs : Good (B (91 :: (u ++ [93]))) s' := hk.1
    have hp' : (1 : Int) ≤ s'.p := by
      have := (sl_kp ht1 hsl hgo).2 he
      rw [g1] at this
      have h2 : (1 : Int) ≤ s'.p := this.2.1
      exact h2
    have ho' : Nx (B (91 :: 94 :: (u ++ [93]))) (sh 1 0 s') o := by
      cases o with
      | none => exact (E.nxEnd ho he hgs).1
      | some c => exact E.nx hp' ho
    have hd' : (sh 1 0 s').d = s'.d := by show s'.d + 0 = s'.d; omega
    have hR2 := set_build hx2 hset2 ho' ho1 (by rw [hd']; exact ho2)
    refine Ev.bind' (parse_of (by rw [B_size, L2]; omega) hR2) ?_
    rw [if_pos he, if_pos (show (sh 1 0 s').e = 0 from he)]
    refine Ev.yes (Ev.yes (Ev.yes ?_))
    have fin : ∀ f : Nat → Option Bool, f = (fun k => scribelaw09_RegexNots.j0 k false 1 w.f0 w.f1 w.f2 w.f3 [] 1 (notW w).f0 (notW w).f1 (notW w).f2 (notW w).f3 []) → Ev f true := by
      intro f hf
      subst hf
      refine Ev.succ ?_
      simp only [scribelaw09_RegexNots.j0]
      refine Ev.neg (by simp) (Ev.bind' awake9_ev (Ev.yes (Ev.yes (Ev.bindc (not_ev w) ?_))))
      simp only [beq_self_eq_true, Bool.and_self]
      exact Ev.now _
    by_cases hz : 0 < u.length
    · refine Ev.pos (by omega) (Ev.pos (by omega) ?_)
      rw [show (bt (B u) 0 == 94) = false by simpa using fun h => h94 ⟨hz, h⟩]
      exact fin _ rfl
    · exact Ev.neg (by omega) (fin _ rfl)
  · obtain ⟨n2, s2, hR2, hk2⟩ := alt_total (B (91 :: 94 :: (u ++ [93]))) (by rw [B_size, L2]; omega)
    refine Ev.bind' (parse_of (by rw [B_size, L2]; omega) hR2) ?_
    by_cases a1 : s'.e = 0
    · rw [if_pos a1]
      refine Ev.yes ?_
      by_cases a2 : s2.e = 0
      · rw [if_pos a2]
        refine Ev.yes ?_
        by_cases a3 : n.f0 = 1
        · refine Ev.pos a3 ?_
          by_cases hz : 0 < u.length
          · refine Ev.pos (by omega) (Ev.pos (by omega) ?_)
            have hb : (bt (B u) 0 == 94) = true := by
              rw [beq_iff_eq]
              exact Classical.byContradiction fun h => hgood ⟨a1, a3, fun ⟨_, h'⟩ => h h'⟩
            rw [hb]
            exact nots_true ..
          · exact absurd ⟨a1, a3, fun ⟨h, _⟩ => hz h⟩ hgood
        · exact Ev.neg a3 (nots_true ..)
      · rw [if_neg a2]
        exact Ev.neg a2 (nots_true ..)
    · rw [if_neg a1]
      exact Ev.neg a1 (nots_true ..)
end Go.Proofs.Ytdjnjhmmpjbbaaa.Pr
