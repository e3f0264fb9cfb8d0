/- A whole number has no places, and is itself: the pure statement. -/
import Derived.Test.YtcbocfgiegdhmaaDoorPuNumBack
import Derived.Test.YtcbocfgiegdhmaaDoorPuNumParts
import Derived.DataShut
import Derived.Test.YtcbocfgiegdhmaaDoorPr15
namespace Go.Proofs.YtcbocfgiegdhmaaDoor.Pr
open Go Go.RowKit Go.Proofs.YtcbocfgiegdhmaaDoorW.PrintWords Go.Proofs.YtcbocfgiegdhmaaDoorW.PrintLast Go.Proofs.YtcbocfgiegdhmaaDoorW.PrintMore

theorem stop_in (a : Int) : (46 : UInt8) ∈ textS a ↔ a.natAbs % 1000000 ≠ 0 := by
  have hd : (46 : UInt8) ∉ Lib.decDigits (a.natAbs / 1000000) := fun h => (dig_ne (dec_dig _ _ h)).1 rfl
  unfold textS textAbs
  by_cases h : a.natAbs % 1000000 = 0
  · rw [if_pos h]
    simp only [List.append_nil, List.mem_append, hd, or_false]
    constructor
    · intro h1; split at h1 <;> simp at h1
    · intro h1; exact absurd h h1
  · rw [if_neg h]
    simp [h]

theorem whole_loop (n a : Int) (l : List UInt8) (hl : l.length ≤ 1000000) (h1 : (46 : UInt8) ∈ l → a = 4611686018427387903 ∨ a = -4611686018427387903)
    (h2 : (46 : UInt8) ∉ l → Int.tdiv a 1000000 = n ∧ -4611686018427387903 ≤ a ∧ a ≤ 4611686018427387903 ∧ near (n * 1000000) = a) (r : List UInt8) :
    ∀ i, l.drop i = r → i ≤ l.length → ((46 : UInt8) ∈ l → (46 : UInt8) ∈ r) → Ev (fun k => scribelaw05_NumWhole.l0 k n a (B l) (i : Int)) true := by
  induction r with
  | nil =>
    intro i hr hi hm
    have := drop_nil hr
    have hn : (46 : UInt8) ∉ l := fun h => by simpa using hm h
    obtain ⟨e1, e2, e3, e4⟩ := h2 hn
    refine Ev.succ ?_
    simp only [scribelaw05_NumWhole.l0]
    refine Ev.neg (by rw [B_size]; omega) (Ev.bind' awake_ev (Ev.pos rfl ?_))
    have hw : num_Num_Whole.f a = some n := by
      unfold num_Num_Whole.f
      rw [e1, w64 ?_ ?_]
      · have := Int.mul_tdiv_add_tmod a 1000000
        have := Int.tmod_lt_of_pos a (show (0 : Int) < 1000000 by omega)
        omega
      · have := Int.mul_tdiv_add_tmod a 1000000
        have hs := (tmod_sign a 1000000)
        have hab := tmod_abs a 1000000
        have : (Int.tmod a 1000000).natAbs < 1000000 := by rw [hab]; exact Nat.mod_lt _ (by omega)
        omega
    have hnb : -9223372036854775808 ≤ n ∧ n ≤ 9223372036854775807 := by
      have h3 := Int.mul_tdiv_add_tmod a 1000000
      have hab := tmod_abs a 1000000
      have h4 : (Int.tmod a 1000000).natAbs < 1000000 := by rw [hab]; exact Nat.mod_lt _ (by omega)
      omega
    refine Ev.bindc hw (Ev.pos rfl (Ev.bind' (f := fun _ t => some (t == a)) (int_ev n hnb.1 hnb.2) (Ev.const ?_)))
    rw [e4]; simp
  | cons c r ih =>
    intro i hr hi hm
    obtain ⟨hb, hil, hr'⟩ := bt_drop hr
    refine Ev.succ ?_
    simp only [scribelaw05_NumWhole.l0, hb]
    refine Ev.pos (by rw [B_size]; omega) (Ev.pos (by omega) ?_)
    by_cases hc : c = 46
    · subst hc
      refine Ev.pos rfl (Ev.bind' awake_ev (Ev.pos rfl ?_))
      have hin : (46 : UInt8) ∈ l := List.mem_of_mem_drop (i := i) (by rw [hr]; simp)
      rcases h1 hin with h | h
      · exact Ev.pos h (Ev.now _)
      · refine Ev.neg (by omega) (Ev.const ?_)
        rw [h]; rfl
    · refine Ev.neg (fun h => hc (u8_ext (by show c.toNat = 46; omega))) ?_
      have hw1 : wrap64 ((i : Int) + 1) = ((i + 1 : Nat) : Int) := by rw [w64 (by omega) (by omega)]; omega
      rw [hw1]
      refine ih (i + 1) hr' (by omega) (fun h => ?_)
      have := hm h
      rw [List.mem_cons] at this
      exact this.resolve_left (fun h => hc h.symm)

theorem NumWhole_ev (n : Int) (w0 : (Lit.int .i64 n).wf = true) : Ev (fun k => scribelaw05_NumWhole.f k n) true := by
  have hb : -9223372036854775808 ≤ n ∧ n ≤ 9223372036854775807 := by
    have h := (Lit.wf_int_iff .i64 n).1 w0
    have e1 : IntKind.i64.min = -9223372036854775808 := by decide
    have e2 : IntKind.i64.max = 9223372036854775807 := by decide
    rw [e1, e2] at h
    exact h
  unfold scribelaw05_NumWhole.f
  have hf := fit_near (n * 1000000)
  refine Ev.bind' (int_ev n hb.1 hb.2) (Ev.bind' (text_ev _ hf.1 hf.2) ?_)
  refine whole_loop n _ _ (by have := text_le _ hf; omega) ?_ ?_ _ 0 rfl (Nat.zero_le _) (fun h => h)
  · rw [stop_in]
    intro h
    unfold near at h ⊢
    split at h
    · rename_i h1; right; rw [if_pos h1]
    · rename_i h1
      split at h
      · rename_i h2; left; rw [if_neg h1, if_pos h2]
      · omega
  · rw [stop_in]
    intro h
    have e : near (n * 1000000) = n * 1000000 := by
      unfold near at h ⊢
      split at h
      · exact absurd (by decide) h
      · rename_i h1
        split at h
        · exact absurd (by decide) h
        · rename_i h2; rw [if_neg h1, if_neg h2]
    rw [e]
    rw [e] at hf
    exact ⟨Int.mul_tdiv_cancel _ (by omega), hf.1, hf.2, rfl⟩

end Go.Proofs.YtcbocfgiegdhmaaDoor.Pr
