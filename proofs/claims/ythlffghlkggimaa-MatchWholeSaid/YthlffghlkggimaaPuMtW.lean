/- match: a pattern between ^( and )$: what it is parsed to, and what that is met by. -/
import Derived.Test.YthlffghlkggimaaPuMtA
import Derived.Test.YthlffghlkggimaaPuRxD
set_option linter.unusedVariables false
namespace Go.Proofs.Ythlffghlkggimaa.Pr
open Go Go.RowKit Go.Proofs.YthlffghlkggimaaW.PrintWords Go.Proofs.YthlffghlkggimaaW.PrintLast Go.Proofs.YthlffghlkggimaaW.PrintMore

abbrev whole (u : List UInt8) : List UInt8 := 94 :: 40 :: (u ++ [41, 36])
theorem whole_len (u : List UInt8) : (whole u).length = u.length + 4 := by simp
theorem emb_whole (u : List UInt8) (hl : u.length ≤ 10000) : Emb (B u) (B (whole u)) 0 2 1 (some 41) := by
  have hL := whole_len u
  refine ⟨fun p _ h0 h1 => ?_, by rw [B_size, B_size, hL]; omega, .inr ⟨?_, by rw [B_size, B_size, hL]; omega⟩, .inr (.inr ⟨rfl, by omega⟩), by rw [B_size]; omega, by rw [B_size, hL]; omega, by omega, by omega, by omega, by omega⟩
  · rw [B_size] at h1
    obtain ⟨k, rfl⟩ := Int.eq_ofNat_of_zero_le h0
    rw [show ((k : Int) + 2) = ((k + 2 : Nat) : Int) by omega, bt_B _ _ (by omega), bt_B _ k (by omega), List.getElem_cons_succ, List.getElem_cons_succ, List.getElem_append_left (by omega)]
  · rw [B_size, show ((u.length : Int) + 2) = ((u.length + 2 : Nat) : Int) by omega, bt_B _ _ (by omega), List.getElem_cons_succ, List.getElem_cons_succ, List.getElem_append_right (Nat.le_refl _)]
    simp
def s1W : St := ⟨1, 0, 0, 0⟩
theorem s1_deep : deeper s1W = sh 2 1 s0 := by
  unfold deeper
  simp only
  have hw : wrap64 (s1W.d + 1) = 1 := by show wrap64 ((0 : Int) + 1) = 1; rw [w64 (by omega) (by omega)]; rfl
  have hg : s1W.go = ⟨2, 0, 0, 0⟩ := by show (⟨wrap64 ((1 : Int) + 1), 0, 0, 0⟩ : St) = _; rw [w64 (by omega) (by omega)]; rfl
  rw [hg, hw, if_neg (by omega)]
  rfl
def begN : RNode := ⟨7, zW, []⟩
def finN : RNode := ⟨8, zW, []⟩
def wholeN (n : RNode) : RNode := ⟨2, zW, [begN, n, finN]⟩
/-- between ^( and )$: the same, or too deep -/
theorem whole_parse (u : List UInt8) {n : RNode} {s' : St} (hR : R (B u) .alt s0 n s') (he : s'.e = 0) (hl : u.length ≤ 5000) :
    (∃ s2, R (B (whole u)) .alt s0 (wholeN n) s2 ∧ s2.e = 0) ∨ ∃ k s2, R (B (whole u)) .alt s0 k s2 ∧ s2.e = 14 := by
  have hgood := s0_good (B u)
  obtain ⟨m, _, H⟩ := R_max hR (by rw [B_size]; omega) hgood (Int.le_refl _) he
  have E := emb_whole u (by omega)
  have hL := whole_len u
  have hend := alt_end E.h1 hR hgood rfl he
  have hx0 : Nx (B (whole u)) s0 (some 94) := nx_B rfl 0 rfl (by omega)
  have hx1 : Nx (B (whole u)) s1W (some 40) := nx_B rfl 1 rfl (by rw [hL]; omega)
  have rb : R (B (whole u)) .atom s0 begN s1W := by
    have h := R.leaf hx0 (by decide) Leaf.beg
    rw [s0_go] at h
    exact h
  have rs : R (B (whole u)) (.signs begN) s1W begN s1W := .signsEnd hx1 (fun c h => by cases h; rfl)
  have a := H _ 2 1 _ E (fun _ _ h => by cases h)
  rw [← s1_deep] at a
  by_cases h : m + 1 ≤ 20
  · left
    have r1 := a.1 h
    have hx2 := (E.nxEnd hend.1 he (R_kp E.h1 hR hgood).1).1
    have ra := R.group hx1 r1 hx2
    have e3 : shut (wrap64 (s1W.go.p - 1)) (sh 2 1 s') (some 41) = ⟨(u.length + 3 : Nat), 0, 0, s'.b⟩ := by
      unfold shut
      simp only [if_true]
      show (⟨wrap64 (s'.p + 2 + 1), wrap64 (s'.d + 1 - 1), s'.e, s'.b⟩ : St) = _
      rw [hend.2.1, hend.2.2, he, B_size, w64 (by omega) (by omega), w64 (by omega) (by omega)]
      simp <;> omega
    rw [e3] at ra
    have hx3 : Nx (B (whole u)) ⟨(u.length + 3 : Nat), 0, 0, s'.b⟩ (some 36) := by
      have hb : bt (B (whole u)) ((u.length + 3 : Nat) : Int) = 36 := by
        rw [bt_B _ _ (by rw [hL]; omega)]
        simp
      have h := Nx.som (t := B (whole u)) (s := ⟨(u.length + 3 : Nat), 0, 0, s'.b⟩) rfl (by show (0 : Int) ≤ ((u.length + 3 : Nat) : Int); omega) (by show ((u.length + 3 : Nat) : Int) < _; rw [B_size, hL]; omega)
      have hb2 : bt (B (whole u)) (⟨(u.length + 3 : Nat), 0, 0, s'.b⟩ : St).p = 36 := hb
      rw [hb2] at h
      exact h
    have rs2 : R (B (whole u)) (.signs n) ⟨(u.length + 3 : Nat), 0, 0, s'.b⟩ n ⟨(u.length + 3 : Nat), 0, 0, s'.b⟩ := .signsEnd hx3 (fun c h => by cases h; rfl)
    have hxe : Nx (B (whole u)) ⟨(u.length + 4 : Nat), 0, 0, s'.b⟩ none := .non (.inr (by rw [B_size, hL]; exact Int.le_refl _))
    have rf : R (B (whole u)) .atom ⟨(u.length + 3 : Nat), 0, 0, s'.b⟩ finN ⟨(u.length + 4 : Nat), 0, 0, s'.b⟩ := by
      have h := R.leaf hx3 (by decide) Leaf.fin
      have e : (⟨(u.length + 3 : Nat), 0, 0, s'.b⟩ : St).go = ⟨(u.length + 4 : Nat), 0, 0, s'.b⟩ := by
        show (⟨wrap64 (((u.length + 3 : Nat) : Int) + 1), 0, 0, s'.b⟩ : St) = _
        rw [w64 (by omega) (by omega)]
        simp <;> omega
      rw [e] at h
      exact h
    have rs3 : R (B (whole u)) (.signs finN) ⟨(u.length + 4 : Nat), 0, 0, s'.b⟩ finN ⟨(u.length + 4 : Nat), 0, 0, s'.b⟩ := .signsEnd hxe (fun c h => by cases h)
    exact ⟨_, .alt (.catMore hx0 (by decide) (by decide) (by decide) rb rs (.catMore hx1 (by decide) (by decide) (by decide) ra rs2 (.catMore hx3 (by decide) (by decide) (by simp) rf rs3 (.catEnd (acc := [begN, n, finN]) hxe (.inl rfl))))) (.altEnd (acc := [_]) hxe (by simp)), rfl⟩
  · right
    obtain ⟨x, s2, r1, h14⟩ := a.2 (by omega)
    obtain ⟨k2, s4, ra, h5⟩ := dead_group hx1 r1 h14
    have hne2 := ne14 h5
    exact ⟨_, _, .alt (.catMore hx0 (by decide) (by decide) (by decide) rb rs (.catMore hx1 (by decide) (by decide) (by decide) ra (dead_signs hne2 _) (dead_cat hne2 _))) (dead_altL hne2 _), h5⟩
theorem whole_met {ch : Nat → Nat} {N : Nat} (n : RNode) (i j : Nat) : Mt ch N (wholeN n) i j ↔ i = 0 ∧ j = N ∧ Mt ch N n 0 N := by
  unfold wholeN
  rw [Mt_2]
  unfold MtC
  unfold MtC
  unfold MtC
  unfold MtC
  unfold begN finN
  rw [Mt_7, Mt_8]
  constructor
  · rintro ⟨m, ⟨rfl, rfl⟩, m2, h, m3, ⟨rfl, rfl⟩, rfl⟩
    exact ⟨rfl, rfl, h⟩
  · rintro ⟨rfl, rfl, h⟩
    exact ⟨0, ⟨rfl, rfl⟩, _, h, _, ⟨rfl, rfl⟩, rfl⟩
end Go.Proofs.Ythlffghlkggimaa.Pr
