/- regex: a pattern in ( and ), with signs behind. -/
import Derived.Test.YthlffghlkggimaaPuRxM
import Derived.Test.YthlffghlkggimaaPuRxE
import Derived.Test.YthlffghlkggimaaPuRxW
import Derived.Test.YthlffghlkggimaaPuF
import Derived.Test.YthlffghlkggimaaPr10
set_option linter.unusedVariables false
namespace Go.Proofs.Ythlffghlkggimaa.Pr
open Go Go.RowKit Go.Proofs.YthlffghlkggimaaW.PrintWords Go.Proofs.YthlffghlkggimaaW.PrintLast Go.Proofs.YthlffghlkggimaaW.PrintMore
theorem cut_B (a : ByteArray) (n : Nat) : scribelaw01_Cut.f a (n : Int) = some (B (a.data.toList.take n)) := by
 unfold scribelaw01_Cut.f
 have hs : a.data.toList.length = a.size := Array.length_toList
 by_cases h : (a.size : Int) > (n : Int)
 ·rw [if_pos h, if_pos (by omega), if_pos (by omega)]
  congr 1
  apply B_ext
  rw [Lib.extract_data, Int.toNat_natCast]
  rfl
 ·rw [if_neg h, List.take_of_length_le (by omega), B_eta]
def isSg (c : UInt8) : Prop := c = 42 ∨ c = 43 ∨ c = 63
def opC (c : UInt8) : Int := if c = 42 then 4 else if c = 43 then 5 else 6
theorem opC_of {c : UInt8} (h : isSg c) : opOf (c.toNat : Int) = some (opC c) := by rcases h with rfl | rfl | rfl <;> rfl
def wrapN (n : RNode) : List UInt8 → RNode
 | [] => n
 | c :: r => wrapN ⟨opC c, zW, [n]⟩ r
theorem wrapN_snoc (l : List UInt8) (c : UInt8) : ∀ n, wrapN n (l ++ [c]) = ⟨opC c, zW, [wrapN n l]⟩ := by
 induction l with
 | nil => intro n; rfl
 | cons a r ih => intro n; exact ih _
theorem nx_B {l : List UInt8} {s : St} (he : s.e = 0) (k : Nat) (hp : s.p = (k : Int)) (h : k < l.length) : Nx (B l) s (some (l[k].toNat : Int)) := by
 have := Nx.som (t := B l) (s := s) he (by omega) (by rw [B_size]; omega)
 rwa [hp, bt_B l k h] at this
theorem nx_end {l : List UInt8} {s : St} (h : (l.length : Int) ≤ s.p) : Nx (B l) s none := .non (.inr (by rw [B_size]; omega))
theorem signs_run (pre sg : List UInt8) (hs : ∀ c ∈ sg, isSg c) (hl : pre.length + sg.length ≤ 100000) (d b : Int) : ∀ n, R (B (pre ++ sg)) (.signs n) ⟨pre.length, d, 0, b⟩ (wrapN n sg) ⟨(pre.length + sg.length : Nat), d, 0, b⟩ := by
 induction sg generalizing pre with
 | nil =>
  intro n
  refine .signsEnd (nx_end (by simp)) (by simp)
 | cons c r ih =>
  intro n
  have hx := nx_B (l := pre ++ c :: r) (s := ⟨pre.length, d, 0, b⟩) rfl pre.length rfl (by simp)
  rw [List.getElem_append_right (Nat.le_refl _)] at hx
  simp only [Nat.sub_self, List.getElem_cons_zero] at hx
  refine .signsMore hx (opC_of (hs c (by simp))) ?_
  have h2 := ih (pre ++ [c]) (fun x hx => hs x (by simp [hx])) (by rw [List.length_append]; simp at hl ⊢; omega) ⟨opC c, zW, [n]⟩
  rw [List.append_assoc] at h2
  have e1 : (⟨pre.length, d, 0, b⟩ : St).go = ⟨((pre ++ [c]).length : Nat), d, 0, b⟩ := by
   show (⟨wrap64 ((pre.length : Int) + 1), d, 0, b⟩ : St) = _
   simp only [List.length_cons] at hl
   rw [w64 (by omega) (by omega), List.length_append]
   rfl
  have e2 : pre.length + (c :: r).length = (pre ++ [c]).length + r.length := by simp only [List.length_append, List.length_cons, List.length_nil]; omega
  rw [e1, e2]
  exact h2
theorem group_parse (u sg : List UInt8) (hs : ∀ c ∈ sg, isSg c) (hl : u.length + sg.length ≤ 10000) {n : RNode} {s' : St} (hR : R (B u) .alt s0 n s') (he : s'.e = 0) :
  (∃ s2, R (B (40 :: (u ++ 41 :: sg))) .alt s0 (wrapN n sg) s2 ∧ s2.e = 0) ∨ (∃ m s2, R (B (40 :: (u ++ 41 :: sg))) .alt s0 m s2 ∧ s2.e = 14) := by
 have hL : (40 :: (u ++ 41 :: sg)).length = u.length + sg.length + 2 := by simp; omega
 have E : Emb (B u) (B (40 :: (u ++ 41 :: sg))) 0 1 1 (some 41) := by
  refine ⟨fun p _ h0 h1 => ?_, by rw [B_size, B_size, hL]; omega, .inr ⟨?_, by rw [B_size, B_size, hL]; omega⟩, .inr (.inr ⟨rfl, by omega⟩), by rw [B_size]; omega, by rw [B_size, hL]; omega, by omega, by omega, by omega, by omega⟩
  ·rw [B_size] at h1
   obtain ⟨k, rfl⟩ := Int.eq_ofNat_of_zero_le h0
   rw [show ((k : Int) + 1) = ((k + 1 : Nat) : Int) by omega, bt_B _ _ (by omega), bt_B _ k (by omega), List.getElem_cons_succ, List.getElem_append_left (by omega)]
  ·rw [B_size, show ((u.length : Int) + 1) = ((u.length + 1 : Nat) : Int) by omega, bt_B _ _ (by omega), List.getElem_cons_succ, List.getElem_append_right (Nat.le_refl _)]
   simp
 have hgood := s0_good (B u)
 have hend := alt_end E.h1 hR hgood rfl he
 have hx0 : Nx (B (40 :: (u ++ 41 :: sg))) s0 (some 40) := nx_B rfl 0 rfl (by omega)
 have g1 : s0.go = ⟨1, 0, 0, 0⟩ := by show (⟨wrap64 ((0 : Int) + 1), 0, 0, 0⟩ : St) = _; rw [w64 (by omega) (by omega)]; rfl
 have hd0 : deeper s0 = sh 1 1 s0 := by
  unfold deeper
  simp only
  have hw : wrap64 (s0.d + 1) = 1 := by show wrap64 ((0 : Int) + 1) = 1; rw [w64 (by omega) (by omega)]; rfl
  rw [g1, hw, if_neg (by omega)]
  rfl
 rcases E.R hR hgood (Int.le_refl _) he (fun _ _ h => by cases h) with r1 | ⟨m, s2, r1, h14⟩
 ·have hx1 := (E.nxEnd hend.1 he (R_kp E.h1 hR hgood).1).1
  rw [← hd0] at r1
  have ra := R.group hx0 r1 hx1
  have e3 : shut (wrap64 (s0.go.p - 1)) (sh 1 1 s') (some 41) = ⟨((40 :: (u ++ [41])).length : Nat), 0, 0, s'.b⟩ := by
   unfold shut
   simp only [if_true]
   show (⟨wrap64 (s'.p + 1 + 1), wrap64 (s'.d + 1 - 1), s'.e, s'.b⟩ : St) = _
   rw [hend.2.1, hend.2.2, he, B_size, w64 (by omega) (by omega), w64 (by omega) (by omega)]
   simp
  rw [e3] at ra
  have eL : 40 :: (u ++ 41 :: sg) = (40 :: (u ++ [41])) ++ sg := by simp
  have rs := signs_run (40 :: (u ++ [41])) sg hs (by simp; omega) 0 s'.b n
  rw [← eL] at rs
  have hxe : Nx (B (40 :: (u ++ 41 :: sg))) ⟨((40 :: (u ++ [41])).length + sg.length : Nat), 0, 0, s'.b⟩ none := nx_end (by rw [hL]; simp; omega)
  exact .inl ⟨_, .alt (.catMore hx0 (by decide) (by decide) (by decide) ra rs (.catEnd hxe (.inl rfl))) (.altEnd (acc := [_]) hxe (by simp)), rfl⟩
 ·rw [← hd0] at r1
  have hne := ne14 h14
  have ra := R.group hx0 r1 (nx_dead hne)
  have h5 : (shut (wrap64 (s0.go.p - 1)) s2 none).e = 14 := by
   unfold shut
   simp only [show (none : Option Int) ≠ some 41 by simp, if_false]
   show (s2.fail _ 9).e = 14
   unfold St.fail
   rw [if_neg hne]
   exact h14
  have hne2 := ne14 h5
  exact .inr ⟨_, _, .alt (.catMore hx0 (by decide) (by decide) (by decide) ra (dead_signs hne2 _) (dead_cat hne2 _)) (dead_altL hne2 _), h5⟩
end Go.Proofs.Ythlffghlkggimaa.Pr
