/- A reader's methods compute what PuPkS says. -/
import Derived.Test.YtghabadccaghcaaDoorPuPkS
import Derived.Test.YtghabadccaghcaaDoorPr1
import Derived.Test.YtghabadccaghcaaDoorPr2
import Derived.Test.YtghabadccaghcaaDoorPr3
import Derived.Test.YtghabadccaghcaaDoorPr4
import Derived.Test.YtghabadccaghcaaDoorPr5
import Derived.Test.YtghabadccaghcaaDoorPr10
namespace Go.Proofs.YtghabadccaghcaaDoor.Pr
open Go Go.RowKit Go.Proofs.YtghabadccaghcaaDoorW.PrintWords Go.Proofs.YtghabadccaghcaaDoorW.PrintLast Go.Proofs.YtghabadccaghcaaDoorW.PrintMore

theorem fail_0 (s : ByteArray) (a d e : Int) : pack_Reader_fail.f s a d 0 e = some (s, a, d, e) := rfl
theorem fail_e (s : ByteArray) (a d e e' : Int) (h : e ≠ 0) : pack_Reader_fail.f s a d e e' = some (s, a, d, e) := by unfold pack_Reader_fail.f; rw [if_neg h]
theorem digits_e (s : ByteArray) (a d e : Int) (h : e ≠ 0) : Ev (fun k => pack_Reader_digits.f k s a d e) (0, s, a, d, e) := by
  unfold pack_Reader_digits.f
  refine Ev.succ ?_
  simp only [pack_Reader_digits.l0]
  exact Ev.neg h (Ev.now _)
def pw (c : Nat) : Nat := 10 ^ c
theorem pw_0 : pw 0 = 1 := rfl
theorem pw_s (c : Nat) : pw (c + 1) = 10 * pw c := by unfold pw; rw [Nat.pow_succ, Nat.mul_comm]
theorem pw_le (c : Nat) (h : c ≤ 18) : pw c ≤ 1000000000000000000 := Nat.le_trans (Nat.pow_le_pow_right (by omega) h) (by decide)
set_option maxHeartbeats 2000000 in
theorem digits_loop_ev (l : List UInt8) (hl : l.length ≤ 1000000000) (d : Int) (i0 : Nat) (r : List UInt8) : ∀ (c v : Nat) (z : Bool), l.drop (i0 + c) = r → i0 + c ≤ l.length → c ≤ 19 → v < pw c → (c = 1 → ∃ x s, l.drop i0 = x :: s ∧ z = decide (x.toNat = 48)) →
    Ev (fun k => pack_Reader_digits.l0 k (i0 : Int) (v : Int) (B l) ((i0 + c : Nat) : Int) d 0) (((digS r c z v).1 : Int), B l, ((i0 + (digS r c z v).2.1 : Nat) : Int), d, ((digS r c z v).2.2 : Int)) := by
  induction r with
  | nil =>
    intro c v z hr hi hc hv hz
    have := drop_nil hr
    refine Ev.succ ?_
    simp only [pack_Reader_digits.l0]
    refine Ev.pos (by simp) (Ev.pos (by rw [B_size]; omega) (Ev.bindc (fail_0 _ _ _ _) (Ev.neg (by simp) ?_)))
    exact Ev.now _
  | cons x r ih =>
    intro c v z hr hi hc hv hz
    obtain ⟨hbt, hlt, hr2⟩ := bt_drop hr
    have hx := isDig_iff x
    have h8 := x.toNat_lt
    have hw : wrap64 (((i0 + c : Nat) : Int) - (i0 : Int)) = (c : Int) := by rw [w64 (by omega) (by omega)]; omega
    have j : Ev (fun k => pack_Reader_digits.j1 k (i0 : Int) (v : Int) (x.toNat : Int) (!isDig x) (B l) ((i0 + c : Nat) : Int) d 0) (((digS (x :: r) c z v).1 : Int), B l, ((i0 + (digS (x :: r) c z v).2.1 : Nat) : Int), d, ((digS (x :: r) c z v).2.2 : Int)) := by
      refine Ev.succ ?_
      simp only [pack_Reader_digits.j1]
      rw [digS]
      by_cases hd : isDig x = true
      · rw [if_pos hd, hd]
        refine Ev.neg (by simp) ?_
        have h1 := hx.1 hd
        rw [hw]
        by_cases h19 : 19 ≤ c
        · rw [if_pos (Or.inl h19)]
          exact Ev.pos (by omega) (Ev.bindc (fail_0 _ _ _ _) (Ev.neg (by simp) (Ev.now _)))
        · have hp := pw_le c (by omega)
          have e1 : c + 1 ≤ 19 := by omega
          have e2 : i0 + (c + 1) ≤ l.length := by omega
          have e3 : c + 1 = 1 → c = 0 := by omega
          have e4 : ¬ ((c : Int) ≥ 19) := by omega
          have e5 : ¬ c = 1 → ¬ ((c : Int) = 1) := by omega
          have e6 : c = 1 → (c : Int) = 1 := by omega
          have e7 : c = 1 → c = 0 → False := by omega
          have hv2 : 10 * v + (x.toNat - 48) < pw (c + 1) := by rw [pw_s]; omega
          have next : ∀ z' : Bool, (c = 0 → z' = decide (x.toNat = 48)) → Ev (fun k => pack_Reader_digits.l0 k (i0 : Int) (IntKind.u64.wrap (IntKind.u64.wrap (10 * (v : Int)) + ((x.toNat : Int) - 48) % 256)) (B l) (wrap64 (((i0 + c : Nat) : Int) + 1)) d 0) (((digS r (c + 1) z' (10 * v + (x.toNat - 48))).1 : Int), B l, ((i0 + (digS r (c + 1) z' (10 * v + (x.toNat - 48))).2.1 : Nat) : Int), d, ((digS r (c + 1) z' (10 * v + (x.toNat - 48))).2.2 : Int)) := by
            intro z' hz'
            have hn : IntKind.u64.wrap (IntKind.u64.wrap (10 * (v : Int)) + ((x.toNat : Int) - 48) % 256) = ((10 * v + (x.toNat - 48) : Nat) : Int) := by
              rw [wu64 (n := 10 * (v : Int)) (by omega) (by omega), wu64 (by omega) (by omega)]
              omega
            have hw2 : wrap64 (((i0 + c : Nat) : Int) + 1) = ((i0 + (c + 1) : Nat) : Int) := by rw [w64 (by omega) (by omega)]; omega
            rw [hn, hw2]
            clear hn hw2
            refine ih (c + 1) _ z' hr2 e2 e1 hv2 (fun h1 => ⟨x, r, ?_, hz' (e3 h1)⟩)
            obtain rfl : c = 0 := e3 h1
            exact hr
          refine Ev.neg e4 ?_
          by_cases h1c : c = 1
          · obtain ⟨x0, s, hd0, hz0⟩ := hz h1c
            obtain ⟨hb0, hl0, _⟩ := bt_drop hd0
            refine Ev.pos (e6 h1c) (Ev.pos (Int.natCast_nonneg _) (Ev.pos (by rw [B_size]; exact Int.ofNat_lt.2 hl0) ?_))
            rw [hb0]
            by_cases h48 : x0.toNat = 48
            · rw [if_pos (Or.inr ⟨h1c, by rw [hz0]; simpa using h48⟩)]
              exact Ev.pos (by omega) (Ev.bindc (fail_0 _ _ _ _) (Ev.neg (by simp) (Ev.now _)))
            · rw [if_neg (by rw [hz0]; simp; omega), if_neg (by omega)]
              exact Ev.neg (by omega) (next z (fun h0 => (e7 h1c h0).elim))
          · rw [if_neg (by omega)]
            exact Ev.neg (e5 h1c) (next _ (fun h0 => by rw [if_pos h0]))
      · rw [if_neg hd, show isDig x = false by simpa using hd]
        refine Ev.pos (by simp) (Ev.pos (by simp) ?_)
        by_cases h0 : c = 0
        · subst h0
          exact Ev.pos (by simp) (Ev.bindc (fail_0 _ _ _ _) (Ev.now _))
        · rw [if_neg h0]
          exact Ev.neg (by omega) (Ev.now _)
    refine Ev.succ ?_
    simp only [pack_Reader_digits.l0]
    refine Ev.pos (by simp) (Ev.neg (by rw [B_size]; omega) (Ev.pos (by omega) (Ev.pos (by rw [B_size]; omega) ?_)))
    rw [hbt]
    by_cases h48 : x.toNat < 48
    · have : isDig x = false := by cases h : isDig x with
        | false => rfl
        | true => have := hx.1 h; omega
      rw [this] at j
      exact Ev.pos (by omega) j
    · have : decide ((x.toNat : Int) > 57) = !isDig x := by
        by_cases h57 : x.toNat ≤ 57
        · rw [hx.2 ⟨by omega, h57⟩]; simp; omega
        · have : isDig x = false := by cases h : isDig x with
          | false => rfl
          | true => have := hx.1 h; omega
          rw [this]; simp; omega
      rw [this]
      exact Ev.neg (by omega) j
theorem digits_0 (l : List UInt8) (hl : l.length ≤ 1000000000) (d : Int) (i : Nat) (hi : i ≤ l.length) : Ev (fun k => pack_Reader_digits.f k (B l) (i : Int) d 0) (((digS (l.drop i) 0 false 0).1 : Int), B l, ((i + (digS (l.drop i) 0 false 0).2.1 : Nat) : Int), d, ((digS (l.drop i) 0 false 0).2.2 : Int)) := by
  unfold pack_Reader_digits.f
  exact digits_loop_ev l hl d i _ 0 0 false rfl hi (by omega) (by rw [pw_0]; omega) (fun h => by omega)
theorem take_e (s : ByteArray) (a d e c : Int) (h : e ≠ 0) : pack_Reader_take.f s a d e c = some (s, a, d, e) := by unfold pack_Reader_take.f; rw [if_neg h]
theorem take_nil (l : List UInt8) (i : Nat) (d c : Int) (h : l.drop i = []) : pack_Reader_take.f (B l) (i : Int) d 0 c = some (B l, (i : Int), d, 2) := by
  have := drop_nil h
  unfold pack_Reader_take.f
  rw [if_pos rfl, if_pos (by rw [B_size]; omega)]
  rfl
theorem take_cons (l : List UInt8) (hl : l.length ≤ 1000000000) (i : Nat) (d : Int) (c : Nat) (x : UInt8) (r : List UInt8) (h : l.drop i = x :: r) : pack_Reader_take.f (B l) (i : Int) d 0 (c : Int) = if x.toNat = c then some (B l, ((i + 1 : Nat) : Int), d, 0) else some (B l, (i : Int), d, 3) := by
  obtain ⟨hb, hlt, _⟩ := bt_drop h
  unfold pack_Reader_take.f
  rw [if_pos rfl, if_neg (by rw [B_size]; omega), if_pos (by omega), if_pos (by rw [B_size]; omega), hb, w64 (by omega) (by omega)]
  by_cases hx : x.toNat = c
  · rw [if_pos (by omega), if_pos hx]; rfl
  · rw [if_neg (by omega), if_neg hx]; rfl
theorem int_e (s : ByteArray) (a d e : Int) (h : e ≠ 0) : Ev (fun k => pack_Reader_Int.f k s a d e) (0, s, a, d, e) := by
  unfold pack_Reader_Int.f
  refine Ev.bindc (take_e s a d e _ h) (Ev.neg h (Ev.succ ?_))
  simp only [pack_Reader_Int.j0]
  refine Ev.neg (by simp) (Ev.succ ?_)
  simp only [pack_Reader_Int.j1]
  refine Ev.bind' (digits_e s a d e h) (Ev.neg h (Ev.succ ?_))
  simp only [pack_Reader_Int.j2]
  refine Ev.neg (by simp) (Ev.succ ?_)
  simp only [pack_Reader_Int.j3]
  exact Ev.bindc (take_e s a d e _ h) (Ev.neg h (Ev.now _))
theorem int_tail (b : Bool) (v : Int) (s : ByteArray) (a d e : Int) (h : e ≠ 0) : Ev (fun k => pack_Reader_Int.j3 k b v s a d e) (0, s, a, d, e) := by
  refine Ev.succ ?_
  simp only [pack_Reader_Int.j3]
  exact Ev.bindc (take_e s a d e _ h) (Ev.neg h (Ev.now _))
set_option maxHeartbeats 2000000 in
theorem int_last (l : List UInt8) (hl : l.length ≤ 1000000000) (d : Int) (b : Bool) (v i : Nat) (hv : v ≤ 9223372036854775808) (hb : b = false → v < 9223372036854775808) (_hi : i ≤ l.length) :
    Ev (fun k => pack_Reader_Int.j3 k b (v : Int) (B l) (i : Int) d 0) (match l.drop i with
      | [] => (0, B l, (i : Int), d, 2)
      | y :: _ => if y ≠ 59 then (0, B l, (i : Int), d, 3) else ((if b = true then -(v : Int) else v), B l, ((i + 1 : Nat) : Int), d, 0)) := by
  refine Ev.succ ?_
  simp only [pack_Reader_Int.j3]
  cases hr : l.drop i with
  | nil =>
    refine Ev.bindc (take_nil l i d _ hr) (Ev.neg (by simp) ?_)
    exact Ev.now _
  | cons y r =>
    have ht := take_cons l hl i d 59 y r hr
    by_cases hy : y.toNat = 59
    · rw [if_pos hy] at ht
      have hy2 : ¬ y ≠ 59 := by intro h; exact h (UInt8.toNat_inj.1 hy)
      refine Ev.bindc ht (Ev.pos (by simp) ?_)
      simp only [if_neg hy2]
      cases b with
      | true =>
        refine Ev.pos (by simp) ?_
        have : wrap64 (IntKind.u64.wrap (-(v : Int))) = -(v : Int) := by
          rw [IntKind.wrap_u64]
          unfold wrap64
          omega
        rw [this]
        exact Ev.now _
      | false =>
        refine Ev.neg (by simp) ?_
        rw [w64 (by omega) (by have := hb rfl; omega)]
        exact Ev.now _
    · rw [if_neg hy] at ht
      have hy2 : y ≠ 59 := by rintro rfl; exact hy rfl
      refine Ev.bindc ht (Ev.neg (by simp) ?_)
      simp only [if_pos hy2]
      exact Ev.now _
set_option maxHeartbeats 2000000 in
/-- behind the sign -/
theorem int_mid (l : List UInt8) (hl : l.length ≤ 1000000000) (d : Int) (m : Nat) (hm : m ≤ 1) (i : Nat) (hi : i ≤ l.length) :
    Ev (fun k => pack_Reader_Int.j1 k (decide (m = 1)) (B l) (i : Int) d 0) (
      let D := digS (l.drop i) 0 false 0
      if D.2.2 ≠ 0 then (0, B l, ((i + D.2.1 : Nat) : Int), d, (D.2.2 : Int)) else
      if 9223372036854775808 < D.1 ∨ (m = 0 ∧ D.1 = 9223372036854775808) ∨ (m = 1 ∧ D.1 = 0) then (0, B l, ((i + D.2.1 : Nat) : Int), d, 3) else
      match l.drop (i + D.2.1) with
      | [] => (0, B l, ((i + D.2.1 : Nat) : Int), d, 2)
      | y :: _ => if y ≠ 59 then (0, B l, ((i + D.2.1 : Nat) : Int), d, 3) else ((if decide (m = 1) = true then -(D.1 : Int) else D.1), B l, ((i + D.2.1 + 1 : Nat) : Int), d, 0)) := by
  have hle := digS_le (l.drop i) 0 false 0
  rw [List.length_drop] at hle
  have hd := digits_0 l hl d i hi
  generalize digS (l.drop i) 0 false 0 = D at *
  obtain ⟨v, c, e⟩ := D
  simp only at *
  refine Ev.succ ?_
  simp only [pack_Reader_Int.j1]
  refine Ev.bind' hd ?_
  by_cases he : e = 0
  · subst he
    rw [if_neg (by simp)]
    refine Ev.pos (by simp) ?_
    have bad : ∀ P : Prop, (9223372036854775808 < v ∨ (m = 0 ∧ v = 9223372036854775808) ∨ (m = 1 ∧ v = 0)) → Ev (fun k => pack_Reader_Int.j2 k (decide (m = 1)) (v : Int) true (B l) ((i + c : Nat) : Int) d 0) (0, B l, ((i + c : Nat) : Int), d, 3) := by
      intro _ _
      refine Ev.succ ?_
      simp only [pack_Reader_Int.j2]
      exact Ev.pos (by simp) (Ev.bindc (fail_0 _ _ _ _) (int_tail _ _ _ _ _ _ (by simp)))
    have good : ¬ (9223372036854775808 < v ∨ (m = 0 ∧ v = 9223372036854775808) ∨ (m = 1 ∧ v = 0)) → Ev (fun k => pack_Reader_Int.j2 k (decide (m = 1)) (v : Int) false (B l) ((i + c : Nat) : Int) d 0) (match l.drop (i + c) with
      | [] => (0, B l, ((i + c : Nat) : Int), d, 2)
      | y :: _ => if y ≠ 59 then (0, B l, ((i + c : Nat) : Int), d, 3) else ((if decide (m = 1) = true then -(v : Int) else v), B l, ((i + c + 1 : Nat) : Int), d, 0)) := by
      intro hn
      refine Ev.succ ?_
      simp only [pack_Reader_Int.j2]
      refine Ev.neg (by simp) ?_
      exact int_last l hl d _ v (i + c) (by omega) (fun h => by
        have h1 : m ≠ 1 := by simpa using h
        omega) (by omega)
    by_cases hbad : 9223372036854775808 < v ∨ (m = 0 ∧ v = 9223372036854775808) ∨ (m = 1 ∧ v = 0)
    · rw [if_pos hbad]
      have := bad True hbad
      by_cases h1 : (v : Int) > 9223372036854775808
      · exact Ev.pos h1 this
      · refine Ev.neg h1 ?_
        by_cases hm1 : m = 1
        · have h0 : v = 0 := by omega
          subst h0
          exact Ev.pos (by simpa using hm1) this
        · refine Ev.neg (by simpa using hm1) ?_
          exact Ev.pos (by omega) this
    · rw [if_neg hbad]
      have := good hbad
      refine Ev.neg (by omega) ?_
      by_cases hm1 : m = 1
      · refine Ev.pos (by simpa using hm1) ?_
        have : ((v : Int) == 0) = false := by simp; omega
        rw [this]
        exact good hbad
      · exact Ev.neg (by simpa using hm1) (Ev.neg (by omega) this)
  · rw [if_pos he]
    refine Ev.neg (by show ¬ ((e : Int) = 0); omega) (Ev.succ ?_)
    simp only [pack_Reader_Int.j2]
    have hl := digS_le (l.drop i) 0 false 0
    exact Ev.neg (by simp) (int_tail _ _ _ _ _ _ (by show (e : Int) ≠ 0; omega))
end Go.Proofs.YtghabadccaghcaaDoor.Pr
