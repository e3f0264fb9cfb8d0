/- match: awake: the answers that the document fixes. -/
import Derived.Test.YthlffghlkggimaaPuMtC
import Derived.Test.YthlffghlkggimaaPuRxQ
set_option linter.unusedVariables false
set_option linter.unusedSimpArgs false
namespace Go.Proofs.Ythlffghlkggimaa.Pr
open Go Go.RowKit Go.Proofs.YthlffghlkggimaaW.PrintWords Go.Proofs.YthlffghlkggimaaW.PrintLast Go.Proofs.YthlffghlkggimaaW.PrintMore
theorem bit_lit (c : UInt8) (x : Nat) (hx : x < 256) : bitS (withW zW (c.toNat : Int)) x = decide (x = c.toNat) := by
 have h := bit_with zW okS_zero c.toNat x (UInt8.toNat_lt _) hx
 rw [h]
 have h0 := bit_fold [] x hx
 have e : foldW [] = zW := rfl
 rw [e] at h0
 rw [h0]
 rfl
theorem mt_lit {ch : Nat → Nat} {N : Nat} (hch : ∀ k, ch k < 256) (c : UInt8) (i j : Nat) : Mt ch N (litN c) i j ↔ i < N ∧ ch i = c.toNat ∧ j = i + 1 := by
 unfold litN
 rw [Mt_1]
 dsimp only
 rw [bit_lit c (ch i) (hch i)]
 simp
def abN : RNode := ⟨2, zW, [⟨4, zW, [litN 97]⟩, litN 98]⟩
theorem ab_parse : R (B [97, 42, 98]) .alt s0 abN ⟨3, 0, 0, 0⟩ := by
 have g0 : (⟨0, 0, 0, 0⟩ : St).go = ⟨1, 0, 0, 0⟩ := go_at 0 (by omega) 0 0 0
 have g1 : (⟨1, 0, 0, 0⟩ : St).go = ⟨2, 0, 0, 0⟩ := go_at 1 (by omega) 0 0 0
 have g2 : (⟨2, 0, 0, 0⟩ : St).go = ⟨3, 0, 0, 0⟩ := go_at 2 (by omega) 0 0 0
 have n0 : Nx (B [97, 42, 98]) ⟨0, 0, 0, 0⟩ (some 97) := nx_B rfl 0 rfl (by decide)
 have n1 : Nx (B [97, 42, 98]) ⟨1, 0, 0, 0⟩ (some 42) := nx_B rfl 1 rfl (by decide)
 have n2 : Nx (B [97, 42, 98]) ⟨2, 0, 0, 0⟩ (some 98) := nx_B rfl 2 rfl (by decide)
 have n3 : Nx (B [97, 42, 98]) ⟨3, 0, 0, 0⟩ none := nx_end (by decide)
 have l0 := R.leaf n0 (by decide) (Leaf.lit (t := B [97, 42, 98]) (s := ⟨0, 0, 0, 0⟩) (c := 97) (by decide) (by decide) (by decide) (by decide) (by decide) (by decide) (by decide) (by decide))
 rw [g0] at l0
 have l2 := R.leaf n2 (by decide) (Leaf.lit (t := B [97, 42, 98]) (s := ⟨2, 0, 0, 0⟩) (c := 98) (by decide) (by decide) (by decide) (by decide) (by decide) (by decide) (by decide) (by decide))
 rw [g2] at l2
 have st : R (B [97, 42, 98]) (.signs (litN 97)) ⟨1, 0, 0, 0⟩ ⟨4, zW, [litN 97]⟩ ⟨2, 0, 0, 0⟩ := .signsMore n1 rfl (by
  rw [g1]
  refine .signsEnd n2 (fun c hc => ?_)
  obtain rfl := Option.some.inj hc
  rfl)
 have s3 : R (B [97, 42, 98]) (.signs (litN 98)) ⟨3, 0, 0, 0⟩ (litN 98) ⟨3, 0, 0, 0⟩ := .signsEnd n3 (by simp)
 refine .alt (.catMore n0 (by decide) (by decide) (by decide) l0 st (.catMore n2 (by decide) (by decide) (by decide) l2 s3 (.catEnd n3 (.inl rfl)))) ?_
 exact .altEnd n3 (by simp)
theorem ab_wf : Wf abN := wf_R ab_parse trivial
theorem ab_ok : OkT abN := okT_R ab_parse trivial
theorem ab_cnt : cnt abN ≤ 1000 := by
 have := cnt_of (t := B [97, 42, 98]) (by decide) ab_parse rfl
 exact Nat.le_trans this (by decide)
theorem ab_met {ch : Nat → Nat} {N : Nat} (hch : ∀ k, ch k < 256) (i j : Nat) : Mt ch N abN i j ↔ ∃ m, Star (MtH ch N [litN 97]) i m ∧ m < N ∧ ch m = 98 ∧ j = m + 1 := by
 unfold abN
 rw [Mt_2]
 unfold MtC
 rw [Mt_4]
 constructor
 ·rintro ⟨m, h1, h2⟩
  unfold MtC at h2
  obtain ⟨m2, h3, h4⟩ := h2
  unfold MtC at h4
  rw [mt_lit hch] at h3
  exact ⟨m, h1, h3.1, h3.2.1, by omega⟩
 ·rintro ⟨m, h1, h2, h3, h4⟩
  refine ⟨m, h1, ?_⟩
  unfold MtC
  refine ⟨m + 1, (mt_lit hch 98 m (m + 1)).2 ⟨h2, h3, rfl⟩, ?_⟩
  unfold MtC
  exact h4
theorem star_a {ch : Nat → Nat} {N : Nat} (hch : ∀ k, ch k < 256) {i m : Nat} (h : Star (MtH ch N [litN 97]) i m) : i ≤ m ∧ ∀ k, i ≤ k → k < m → ch k = 97 := by
 induction h with
 | nil => exact ⟨Nat.le_refl _, fun k h1 h2 => by omega⟩
 | @cons i x m h1 _ ih =>
  unfold MtH at h1
  rw [mt_lit hch] at h1
  obtain ⟨_, h2, rfl⟩ := h1
  refine ⟨by omega, fun k hk hk' => ?_⟩
  by_cases e : k = i
  ·subst e; exact h2
  ·exact ih.2 k (by omega) hk'
abbrev tX : ByteArray := ⟨#[120, 97, 97, 98, 98]⟩
theorem find_ab {a b : Int} {ok : Bool} (h : MetS abN tX 0 a b ok) : a = 1 ∧ b = 4 ∧ ok = true := by
 have hch := chB_lt tX
 have c0 : chB tX 0 = 120 := by decide +kernel
 have c1 : chB tX 1 = 97 := by decide +kernel
 have c2 : chB tX 2 = 97 := by decide +kernel
 have c3 : chB tX 3 = 98 := by decide +kernel
 have hsz : tX.size = 5 := rfl
 have m14 : Mt (chB tX) tX.size abN 1 4 := by
  rw [ab_met hch]
  refine ⟨3, .cons (m := 2) ?_ (.cons (m := 3) ?_ .nil), by omega, c3, rfl⟩
  ·unfold MtH; rw [mt_lit hch]; exact ⟨by omega, c1, rfl⟩
  ·unfold MtH; rw [mt_lit hch]; exact ⟨by omega, c2, rfl⟩
 have no0 : ∀ e, ¬ Mt (chB tX) tX.size abN 0 e := by
  intro e he
  rw [ab_met hch] at he
  obtain ⟨m, h1, _, h3, _⟩ := he
  have := star_a hch h1
  by_cases hm : m = 0
  ·subst hm; omega
  ·have := this.2 0 (Nat.le_refl _) (by omega); omega
 have from1 : ∀ e, Mt (chB tX) tX.size abN 1 e → e ≤ 4 := by
  intro e he
  rw [ab_met hch] at he
  obtain ⟨m, h1, _, h3, rfl⟩ := he
  have := star_a hch h1
  by_cases hm : 3 < m
  ·have := this.2 3 (by omega) hm; omega
  ·omega
 rcases h with ⟨_, _, _, h⟩ | ⟨h1, s, e, rfl, rfl, _, _, _, _, h2, h3⟩
 ·exact absurd m14 (h 1 4 (by omega) (by omega) (Int.le_refl _))
 ·have h4 := h3 1 4 (by omega) (by omega) m14
  have hs : s ≠ 0 := fun e0 => by subst e0; exact no0 _ h2
  have hs1 : s = 1 := by rcases h4 with h | ⟨h, _⟩ <;> omega
  subst hs1
  have := from1 _ h2
  exact ⟨rfl, by rcases h4 with h | ⟨_, h⟩ <;> omega, h1⟩
abbrev tXX : ByteArray := ⟨#[120, 120]⟩
theorem in_ab {ok : Bool} (h : InS abN tXX ok) : ok = false := by
 have hch := chB_lt tXX
 have hsz : tXX.size = 2 := rfl
 have c0 : chB tXX 0 = 120 := by decide +kernel
 have c1 : chB tXX 1 = 120 := by decide +kernel
 cases ok with
 | false => rfl
 | true =>
  obtain ⟨s, e, hs, hm⟩ := h.1 rfl
  rw [ab_met hch] at hm
  obtain ⟨m, _, h2, h3, _⟩ := hm
  have : m = 0 ∨ m = 1 := by omega
  rcases this with rfl | rfl <;> omega
set_option maxHeartbeats 4000000 in
set_option maxRecDepth 100000 in
theorem awake10_calls (w : World) : Calls Try.prog 14 #[] w fun e w' => e = .returned (.bool true) ∧ Below w.heap.size w w' := by
 have HOF : Hid (∀ W, Calls Try.prog 12 #[.string (⟨#[97, 42, 98]⟩ : ByteArray)] W fun e w' => ∃ g, e = .returned (.tuple #[.pointer (some ⟨g, 0, none⟩), .int .i64 0, .int .i64 0]) ∧ IsP w' g abN ∧ Below W.heap.size W w') := Lib.hid (fun W => Of_ok (B [97, 42, 98]) (by decide) ab_parse rfl W)
 have HFI : Hid (∀ W g, IsP W g abN → Calls Try.prog 15 #[.pointer (some ⟨g, 0, none⟩), .string (⟨#[120, 97, 97, 98, 98]⟩ : ByteArray), .int .i64 0] W fun e w' => e = .returned (.tuple #[.int .i64 1, .int .i64 4, .bool true]) ∧ Below W.heap.size W w') := Lib.hid (fun W g hI => by
  obtain ⟨a, b, ok, hm, hc⟩ := Find_calls hI ab_wf ab_ok ab_cnt (t := tX) (by decide) 0
  obtain ⟨rfl, rfl, rfl⟩ := find_ab hm
  exact hc)
 have HIN : Hid (∀ W g, IsP W g abN → Calls Try.prog 17 #[.pointer (some ⟨g, 0, none⟩), .string (⟨#[120, 120]⟩ : ByteArray)] W fun e w' => e = .returned (.bool false) ∧ Below W.heap.size W w') := Lib.hid (fun W g hI => by
  obtain ⟨ok, hm, hc⟩ := In_calls hI ab_wf ab_ok ab_cnt (t := tXX) (by decide)
  obtain rfl := in_ab hm
  exact hc)
 go_enter Try.func14, Try.ntmps14
 go_wp2_with (first
  | (go_at_call 12; refine (HOF.out _).mono ?_; rintro e w1 ⟨g, rfl, hp, hb⟩; have HP1 := Lib.hid hp; have HB1 := Lib.hid hb; clear hp hb)
  | (go_at_call 15; refine (HFI.out _ _ HP1.out).mono ?_; rintro e w2 ⟨rfl, hb⟩; have HP2 := Lib.hid (HP1.out.below hb); have HB2 := Lib.hid (HB1.out.trans (hb.mono HB1.out.size)); clear hb)
  | (go_at_call 17; refine (HIN.out _ _ HP2.out).mono ?_; rintro e w3 ⟨rfl, hb⟩; have HB3 := Lib.hid (HB2.out.trans (hb.mono HB2.out.size)); clear hb))
 go_ret
 exact ⟨rfl, HB3.out⟩
end Go.Proofs.Ythlffghlkggimaa.Pr
