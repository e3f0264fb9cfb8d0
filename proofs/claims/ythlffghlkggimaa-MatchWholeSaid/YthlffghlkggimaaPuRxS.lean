/- regex.Set: With, Not, Has: four words of 64 bits. -/
import Derived.Test.YthlffghlkggimaaTb9
import Derived.RegionTactic
import Derived.WalkMore
import Derived.WalkSpells
import Derived.Laws.BitsLemmas
namespace Go.Proofs.Ythlffghlkggimaa.Pr
open Go Go.RowKit

/-- a word with bit n on -/
def orU (s : Int) (n : Nat) : Int := bits .or .u64 s (IntKind.u64.wrap (2 ^ n))
def regex_Set_With.f (a0_0 : Int) (a0_1 : Int) (a0_2 : Int) (a0_3 : Int) (a1 : Int) : Option (Int × Int × Int × Int) :=
  if 0 ≤ a1 then if a1 < 64 then some (orU a0_0 (a1 % 64).toNat, a0_1, a0_2, a0_3) else if a1 < 128 then some (a0_0, orU a0_1 (a1 % 64).toNat, a0_2, a0_3)
    else if a1 < 192 then some (a0_0, a0_1, orU a0_2 (a1 % 64).toNat, a0_3) else if a1 < 256 then some (a0_0, a0_1, a0_2, orU a0_3 (a1 % 64).toNat) else none else none
set_option maxHeartbeats 2000000 in
set_option maxRecDepth 100000 in
theorem regex_Set_With.calls (a0_0 : Int) (a0_1 : Int) (a0_2 : Int) (a0_3 : Int) (a1 : Int) (r1 : Int) (r2 : Int) (r3 : Int) (r4 : Int) (w : World) (_hT : TB w) (h : regex_Set_With.f a0_0 a0_1 a0_2 a0_3 a1 = some (r1, r2, r3, r4)) :
    Calls Try.prog 51 #[.agg #[.int .u64 a0_0, .int .u64 a0_1, .int .u64 a0_2, .int .u64 a0_3], .int .u8 a1] w fun e w' => e = .returned (.agg #[.int .u64 r1, .int .u64 r2, .int .u64 r3, .int .u64 r4]) ∧ Below w.heap.size w w' := by
  have hu := Try.underlying49
  unfold regex_Set_With.f at h
  by_cases h0 : 0 ≤ a1
  · rw [if_pos h0] at h
    by_cases h1 : a1 < 64
    · rw [if_pos h1] at h
      cases h
      have hd : a1 / 64 = 0 := by omega
      go_enter Try.func51, Try.ntmps51
      go_wp2
      refine bodyPost_ret (v := .agg #[.int .u64 (orU a0_0 (a1 % 64).toNat), .int .u64 a0_1, .int .u64 a0_2, .int .u64 a0_3]) (by simp [results, Try.results51, go_sem, orU]) rfl ⟨rfl, ?_⟩
      exact ((Below.refl _ _).alloc (Nat.le_refl _) _).alloc (by simp) _
    · rw [if_neg h1] at h
      by_cases h2 : a1 < 128
      · rw [if_pos h2] at h
        cases h
        have hd : a1 / 64 = 1 := by omega
        clear h1
        go_enter Try.func51, Try.ntmps51
        go_wp2
        refine bodyPost_ret (v := .agg #[.int .u64 a0_0, .int .u64 (orU a0_1 (a1 % 64).toNat), .int .u64 a0_2, .int .u64 a0_3]) (by simp [results, Try.results51, go_sem, orU]) rfl ⟨rfl, ?_⟩
        exact ((Below.refl _ _).alloc (Nat.le_refl _) _).alloc (by simp) _
      · rw [if_neg h2] at h
        by_cases h3 : a1 < 192
        · rw [if_pos h3] at h
          cases h
          have hd : a1 / 64 = 2 := by omega
          clear h1 h2
          go_enter Try.func51, Try.ntmps51
          go_wp2
          refine bodyPost_ret (v := .agg #[.int .u64 a0_0, .int .u64 a0_1, .int .u64 (orU a0_2 (a1 % 64).toNat), .int .u64 a0_3]) (by simp [results, Try.results51, go_sem, orU]) rfl ⟨rfl, ?_⟩
          exact ((Below.refl _ _).alloc (Nat.le_refl _) _).alloc (by simp) _
        · rw [if_neg h3] at h
          by_cases h4 : a1 < 256
          · rw [if_pos h4] at h
            cases h
            have hd : a1 / 64 = 3 := by omega
            clear h1 h2 h3
            go_enter Try.func51, Try.ntmps51
            go_wp2
            refine bodyPost_ret (v := .agg #[.int .u64 a0_0, .int .u64 a0_1, .int .u64 a0_2, .int .u64 (orU a0_3 (a1 % 64).toNat)]) (by simp [results, Try.results51, go_sem, orU]) rfl ⟨rfl, ?_⟩
            exact ((Below.refl _ _).alloc (Nat.le_refl _) _).alloc (by simp) _
          · rw [if_neg h4] at h; cases h
  · rw [if_neg h0] at h; cases h

/-- all other bits of a word -/
def notU (s : Int) : Int := bits .xor .u64 IntKind.u64.max s
def regex_Set_Not.f (a0_0 : Int) (a0_1 : Int) (a0_2 : Int) (a0_3 : Int) : Option (Int × Int × Int × Int) := some (notU a0_0, notU a0_1, notU a0_2, notU a0_3)
set_option maxHeartbeats 2000000 in
set_option maxRecDepth 100000 in
theorem regex_Set_Not.calls (a0_0 : Int) (a0_1 : Int) (a0_2 : Int) (a0_3 : Int) (r1 : Int) (r2 : Int) (r3 : Int) (r4 : Int) (w : World) (_hT : TB w) (h : regex_Set_Not.f a0_0 a0_1 a0_2 a0_3 = some (r1, r2, r3, r4)) :
    Calls Try.prog 49 #[.agg #[.int .u64 a0_0, .int .u64 a0_1, .int .u64 a0_2, .int .u64 a0_3]] w fun e w' => e = .returned (.agg #[.int .u64 r1, .int .u64 r2, .int .u64 r3, .int .u64 r4]) ∧ Below w.heap.size w w' := by
  have hu := Try.underlying49
  have hs : IntKind.u64.signed = false := rfl
  cases h
  go_enter Try.func49, Try.ntmps49
  go_wp2
  all_goals
    first
    | (exfalso; rename_i h; revert h; decide)
    | (refine bodyPost_ret (v := .agg #[.int .u64 (notU a0_0), .int .u64 (notU a0_1), .int .u64 (notU a0_2), .int .u64 (notU a0_3)]) (by simp [results, Try.results49, go_sem, notU]) rfl ⟨rfl, ?_⟩
       exact ((Below.refl _ _).alloc (Nat.le_refl _) _).alloc (by simp) _)
/-- is bit n of a word on? -/
def hasU (s : Int) (n : Nat) : Bool := bits .and .u64 (s / 2 ^ n) 1 == 1
def regex_Set_Has.f (a0_0 : Int) (a0_1 : Int) (a0_2 : Int) (a0_3 : Int) (a1 : Int) : Option (Bool) :=
  if 0 ≤ a0_0 ∧ 0 ≤ a0_1 ∧ 0 ≤ a0_2 ∧ 0 ≤ a0_3 then if 0 ≤ a1 then if a1 < 64 then some (hasU a0_0 (a1 % 64).toNat) else if a1 < 128 then some (hasU a0_1 (a1 % 64).toNat)
    else if a1 < 192 then some (hasU a0_2 (a1 % 64).toNat) else if a1 < 256 then some (hasU a0_3 (a1 % 64).toNat) else none else none else none
set_option maxHeartbeats 2000000 in
set_option maxRecDepth 100000 in
theorem regex_Set_Has.calls (a0_0 : Int) (a0_1 : Int) (a0_2 : Int) (a0_3 : Int) (a1 : Int) (r : Bool) (w : World) (_hT : TB w) (h : regex_Set_Has.f a0_0 a0_1 a0_2 a0_3 a1 = some r) :
    Calls Try.prog 25 #[.agg #[.int .u64 a0_0, .int .u64 a0_1, .int .u64 a0_2, .int .u64 a0_3], .int .u8 a1] w fun e w' => e = .returned (.bool r) ∧ Below w.heap.size w w' := by
  have hu := Try.underlying49
  unfold regex_Set_Has.f at h
  by_cases hp : 0 ≤ a0_0 ∧ 0 ≤ a0_1 ∧ 0 ≤ a0_2 ∧ 0 ≤ a0_3
  · rw [if_pos hp] at h
    obtain ⟨p0, p1, p2, p3⟩ := hp
    by_cases h0 : 0 ≤ a1
    · rw [if_pos h0] at h
      by_cases h1 : a1 < 64
      · rw [if_pos h1] at h
        cases h
        have hd : a1 / 64 = 0 := by omega
        go_enter Try.func25, Try.ntmps25
        go_wp2
        go_ret
        exact ⟨rfl, (Below.refl _ _).alloc (Nat.le_refl _) _⟩
      · rw [if_neg h1] at h
        by_cases h2 : a1 < 128
        · rw [if_pos h2] at h
          cases h
          have hd : a1 / 64 = 1 := by omega
          clear h1
          go_enter Try.func25, Try.ntmps25
          go_wp2
          go_ret
          exact ⟨rfl, (Below.refl _ _).alloc (Nat.le_refl _) _⟩
        · rw [if_neg h2] at h
          by_cases h3 : a1 < 192
          · rw [if_pos h3] at h
            cases h
            have hd : a1 / 64 = 2 := by omega
            clear h1 h2
            go_enter Try.func25, Try.ntmps25
            go_wp2
            go_ret
            exact ⟨rfl, (Below.refl _ _).alloc (Nat.le_refl _) _⟩
          · rw [if_neg h3] at h
            by_cases h4 : a1 < 256
            · rw [if_pos h4] at h
              cases h
              have hd : a1 / 64 = 3 := by omega
              clear h1 h2 h3
              go_enter Try.func25, Try.ntmps25
              go_wp2
              go_ret
              exact ⟨rfl, (Below.refl _ _).alloc (Nat.le_refl _) _⟩
            · rw [if_neg h4] at h; cases h
    · rw [if_neg h0] at h; cases h
  · rw [if_neg hp] at h; cases h
end Go.Proofs.Ythlffghlkggimaa.Pr
