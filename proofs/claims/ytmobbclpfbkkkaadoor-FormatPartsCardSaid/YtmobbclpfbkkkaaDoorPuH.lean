/- num: the number at the beginning of a text, as a function on lists of bytes. -/
import Derived.Test.YtmobbclpfbkkkaaDoorPuB0
import Derived.Test.YtmobbclpfbkkkaaDoorPuF
import Derived.Test.YtmobbclpfbkkkaaDoorPr8
import Derived.Test.YtmobbclpfbkkkaaDoorPr9
namespace Go.Proofs.YtmobbclpfbkkkaaDoor.Pr
open Go Go.RowKit Go.Proofs.YtmobbclpfbkkkaaDoorW.PrintWords Go.Proofs.YtmobbclpfbkkkaaDoorW.PrintLast Go.Proofs.YtmobbclpfbkkkaaDoorW.PrintMore

def isBlank (c : UInt8) : Bool := c == 32 || c == 9 || c == 10
def isDig (c : UInt8) : Bool := decide (48 ≤ c.toNat) && decide (c.toNat ≤ 57)
structure Sc where
  dg : Nat
  w : Nat
  p : Nat
  n : Nat
/-- digits, and one stop among them: how many digits, the whole part (at most 10^13), the part in millionths, how many bytes -/
def scan : List UInt8 → Nat → Bool → Nat → Nat → Nat → Nat → Sc
  | [], dg, _, w, p, _, n => ⟨dg, w, p, n⟩
  | c :: r, dg, dot, w, p, u, n =>
    if c = 46 ∧ dot = false then scan r dg true w p u (n + 1)
    else if isDig c then
      (if dot then scan r (dg + 1) dot w (p + (c.toNat - 48) * u) (u / 10) (n + 1)
       else scan r (dg + 1) dot (min (10 * w + (c.toNat - 48)) 10000000000000) p u (n + 1))
    else ⟨dg, w, p, n⟩
def endS (neg : Bool) (x : Sc) : Int × Int :=
  if x.dg = 0 then (0, 0) else (clampS neg ((x.w * 1000000 + x.p : Nat) : Int), (x.n : Int))

theorem l1_scan (l : List UInt8) (neg : Bool) (hl : l.length ≤ 1000000) (r : List UInt8) :
    ∀ (i dg : Nat) (dot : Bool) (w p u : Nat), l.drop i = r → i ≤ l.length → dg ≤ i → w ≤ 10000000000000 → u ≤ 100000 → p + 10 * u ≤ 1000000 →
      Ev (fun k => num_Prefix.l1 k (B l) (i : Int) neg (dg : Int) dot (w : Int) (p : Int) (u : Int)) (endS neg (scan r dg dot w p u i)) := by
  have fin : ∀ (dg w p i : Nat), w ≤ 10000000000000 → p ≤ 1000000 → ∀ g : Nat → Option (Int × Int),
      (∀ k, g k = if (dg : Int) = 0 then some (0, 0) else (num_clamp.f k neg 0 (IntKind.u64.wrap ((IntKind.u64.wrap ((w : Int) * 1000000)) + (p : Int)))).bind fun t => some (t, (i : Int))) →
      Ev g (endS neg ⟨dg, w, p, i⟩) := by
    intro dg w p i hw hp g hg
    refine Ev.congr hg ?_
    unfold endS
    by_cases h : dg = 0
    · exact Ev.pos (by omega) (Ev.const (by rw [if_pos h]))
    · refine Ev.neg (by omega) ?_
      rw [wu64 (n := (w : Int) * 1000000) (by omega) (by omega), wu64 (by omega) (by omega), if_neg h]
      have e : (w : Int) * 1000000 + (p : Int) = ((w * 1000000 + p : Nat) : Int) := by omega
      rw [e]
      exact Ev.bind' (f := fun _ t => some (t, (i : Int))) (clamp_ev neg _ (Int.natCast_nonneg _)) (Ev.now _)
  induction r with
  | nil =>
    intro i dg dot w p u hr hi hd hw hu hp
    have := drop_nil hr
    refine Ev.succ ?_
    simp only [num_Prefix.l1]
    refine Ev.neg (by rw [B_size]; omega) ?_
    exact fin dg w p i hw (by omega) _ (fun _ => rfl)
  | cons c r ih =>
    intro i dg dot w p u hr hi hd hw hu hp
    obtain ⟨hb, hil, hr'⟩ := bt_drop hr
    have hc := u8_lt c
    refine Ev.succ ?_
    simp only [num_Prefix.l1, hb]
    refine Ev.pos (by rw [B_size]; omega) (Ev.pos (by omega) ?_)
    have hw1 : wrap64 ((i : Int) + 1) = ((i + 1 : Nat) : Int) := by rw [w64 (by omega) (by omega)]; omega
    have hw2 : wrap64 ((dg : Int) + 1) = ((dg + 1 : Nat) : Int) := by rw [w64 (by omega) (by omega)]; omega
    -- behind the stop's test
    have rest : ¬ (c = 46 ∧ dot = false) → Ev (fun k => num_Prefix.j6 k (B l) (i : Int) neg (dg : Int) dot (w : Int) (p : Int) (u : Int) (c.toNat : Int) false) (endS neg (scan (c :: r) dg dot w p u i)) := by
      intro hstop
      refine Ev.succ ?_
      simp only [num_Prefix.j6]
      refine Ev.neg (by simp) ?_
      rw [scan, if_neg hstop]
      by_cases h1 : c.toNat < 48
      · refine Ev.pos (by omega) (Ev.succ ?_)
        simp only [num_Prefix.j7]
        have hnd : isDig c = false := by unfold isDig; simp; omega
        rw [hnd]
        exact Ev.pos (by simp) (fin dg w p i hw (by omega) _ (fun _ => rfl))
      · refine Ev.neg (by omega) (Ev.succ ?_)
        simp only [num_Prefix.j7]
        by_cases h2 : 57 < c.toNat
        · have hnd : isDig c = false := by unfold isDig; simp; omega
          rw [hnd]
          exact Ev.pos (by simp; omega) (fin dg w p i hw (by omega) _ (fun _ => rfl))
        · have hnd : isDig c = true := by unfold isDig; simp; omega
          rw [hnd, if_pos rfl, hw1, hw2]
          refine Ev.neg (by simp; omega) ?_
          have hsub : ((c.toNat : Int) - 48) % 256 = ((c.toNat - 48 : Nat) : Int) := by omega
          rw [hsub]
          cases dot with
          | true =>
            refine Ev.pos rfl ?_
            have hd9 : (c.toNat - 48) * u ≤ 9 * u := Nat.mul_le_mul_right _ (by omega)
            have e1 : IntKind.u64.wrap (((c.toNat - 48 : Nat) : Int) * (u : Int)) = (((c.toNat - 48) * u : Nat) : Int) := by
              rw [← Int.natCast_mul, wu64 (Int.natCast_nonneg _) (by omega)]
            have e2 : IntKind.u64.wrap ((p : Int) + (((c.toNat - 48) * u : Nat) : Int)) = ((p + (c.toNat - 48) * u : Nat) : Int) := by
              rw [wu64 (by omega) (by omega)]; omega
            have e3 : IntKind.u64.wrap (Int.tdiv (u : Int) 10) = ((u / 10 : Nat) : Int) := by
              rw [Int.tdiv_eq_ediv_of_nonneg (by omega), wu64 (by omega) (by omega)]; rfl
            rw [e1, e2, e3, if_pos rfl]
            exact ih (i + 1) (dg + 1) true w (p + (c.toNat - 48) * u) (u / 10) hr' (by omega) (by omega) hw (by omega) (by omega)
          | false =>
            refine Ev.neg (by simp) ?_
            have e1 : mn (IntKind.u64.wrap ((IntKind.u64.wrap (10 * (w : Int))) + ((c.toNat - 48 : Nat) : Int))) 10000000000000 = ((min (10 * w + (c.toNat - 48)) 10000000000000 : Nat) : Int) := by
              rw [wu64 (n := 10 * (w : Int)) (by omega) (by omega), wu64 (by omega) (by omega)]
              unfold mn
              split <;> omega
            rw [e1]
            simp only [Bool.false_eq_true, if_false]
            exact ih (i + 1) (dg + 1) false _ p u hr' (by omega) (by omega) (by omega) hu hp
    by_cases h46 : c = 46
    · subst h46
      refine Ev.pos (by rfl) ?_
      cases dot with
      | false =>
        refine Ev.succ ?_
        simp only [num_Prefix.j6]
        refine Ev.pos (by simp) ?_
        rw [hw1, scan, if_pos ⟨rfl, rfl⟩]
        exact ih (i + 1) dg true w p u hr' (by omega) (by omega) hw hu hp
      | true => exact rest (by simp)
    · refine Ev.neg ?_ (rest (by simp [h46]))
      intro h
      exact h46 (u8_ext (by show c.toNat = 46; omega))

def dropBlanks : List UInt8 → Nat → Nat
  | [], n => n
  | c :: r, n => if isBlank c then dropBlanks r (n + 1) else n
/-- the sign: is it a minus, how many bytes -/
def signOf : List UInt8 → Bool × Nat
  | [] => (false, 0)
  | c :: _ => if c = 45 then (true, 1) else if c = 43 then (false, 1) else (false, 0)
theorem sign_minus (r : List UInt8) : signOf (45 :: r) = (true, 1) := rfl
theorem sign_plus (r : List UInt8) : signOf (43 :: r) = (false, 1) := rfl
theorem sign_none {c : UInt8} (r : List UInt8) (h1 : c ≠ 45) (h2 : c ≠ 43) : signOf (c :: r) = (false, 0) := by
  simp [signOf, h1, h2]
def prefixS (l : List UInt8) : Int × Int :=
  let i := dropBlanks l 0
  let g := signOf (l.drop i)
  endS g.1 (scan (l.drop (i + g.2)) 0 false 0 0 100000 (i + g.2))

theorem dropBlanks_le (r : List UInt8) : ∀ n, n ≤ dropBlanks r n ∧ dropBlanks r n ≤ n + r.length := by
  induction r with
  | nil => intro n; simp [dropBlanks]
  | cons c r ih =>
    intro n
    rw [dropBlanks]
    split
    · have := ih (n + 1); rw [List.length_cons]; omega
    · rw [List.length_cons]; omega

theorem j1_prefix (l : List UInt8) (hl : l.length ≤ 1000000) (i : Nat) (hi : i ≤ l.length) :
    Ev (fun k => num_Prefix.j1 k (B l) (i : Int)) (endS (signOf (l.drop i)).1 (scan (l.drop (i + (signOf (l.drop i)).2)) 0 false 0 0 100000 (i + (signOf (l.drop i)).2))) := by
  have go : ∀ (j : Nat) (neg : Bool), j ≤ l.length → Ev (fun k => num_Prefix.j4 k (B l) (j : Int) neg) (endS neg (scan (l.drop j) 0 false 0 0 100000 j)) := by
    intro j neg hj
    refine Ev.succ ?_
    simp only [num_Prefix.j4]
    exact l1_scan l neg hl (l.drop j) j 0 false 0 0 100000 rfl hj (by omega) (by omega) (by omega) (by omega)
  have hw1 : wrap64 ((i : Int) + 1) = ((i + 1 : Nat) : Int) := by rw [w64 (by omega) (by omega)]; omega
  refine Ev.succ ?_
  simp only [num_Prefix.j1]
  cases hr : l.drop i with
  | nil =>
    have := drop_nil hr
    refine Ev.neg (by rw [B_size]; omega) (Ev.succ ?_)
    simp only [num_Prefix.j2]
    refine Ev.neg (by simp) (Ev.neg (by rw [B_size]; omega) (Ev.succ ?_))
    simp only [num_Prefix.j3]
    exact Ev.neg (by simp) (go i false hi)
  | cons c r =>
    obtain ⟨hb, hil, hr'⟩ := bt_drop hr
    refine Ev.pos (by rw [B_size]; omega) (Ev.pos (by omega) (Ev.succ ?_))
    simp only [num_Prefix.j2, hb]
    by_cases h45 : c = 45
    · subst h45
      refine Ev.pos (by rfl) (Ev.succ ?_)
      simp only [num_Prefix.j3]
      refine Ev.pos (by simp) ?_
      rw [hw1, sign_minus]
      exact go (i + 1) true (by omega)
    · have hn : (((c.toNat : Int) == 45) = false) := by
        rw [beq_eq_false_iff_ne]; intro h; exact h45 (u8_ext (by show c.toNat = 45; omega))
      rw [hn]
      refine Ev.neg (by simp) (Ev.pos (by rw [B_size]; omega) (Ev.pos (by omega) (Ev.succ ?_)))
      simp only [num_Prefix.j3]
      by_cases h43 : c = 43
      · subst h43
        refine Ev.pos (by rfl) ?_
        rw [hw1, sign_plus]
        exact go (i + 1) false (by omega)
      · have hn2 : (((c.toNat : Int) == 43) = false) := by
          rw [beq_eq_false_iff_ne]; intro h; exact h43 (u8_ext (by show c.toNat = 43; omega))
        rw [hn2, sign_none r h45 h43]
        exact Ev.neg (by simp) (go i false hi)

theorem l0_prefix (l : List UInt8) (hl : l.length ≤ 1000000) (r : List UInt8) : ∀ i, l.drop i = r → i ≤ l.length →
    Ev (fun k => num_Prefix.l0 k (B l) (i : Int)) (endS (signOf (l.drop (dropBlanks r i))).1 (scan (l.drop (dropBlanks r i + (signOf (l.drop (dropBlanks r i))).2)) 0 false 0 0 100000 (dropBlanks r i + (signOf (l.drop (dropBlanks r i))).2))) := by
  induction r with
  | nil =>
    intro i hr hi
    have := drop_nil hr
    refine Ev.succ ?_
    simp only [num_Prefix.l0]
    exact Ev.neg (by rw [B_size]; omega) (j1_prefix l hl i hi)
  | cons c r ih =>
    intro i hr hi
    obtain ⟨hb, hil, hr'⟩ := bt_drop hr
    have hw1 : wrap64 ((i : Int) + 1) = ((i + 1 : Nat) : Int) := by rw [w64 (by omega) (by omega)]; omega
    refine Ev.succ ?_
    simp only [num_Prefix.l0, hb, hw1]
    refine Ev.pos (by rw [B_size]; omega) (Ev.pos (by omega) ?_)
    rw [dropBlanks]
    have ih' := ih (i + 1) hr' (by omega)
    by_cases h1 : c = 32
    · subst h1; exact Ev.pos rfl ih'
    · refine Ev.neg (fun h => h1 (u8_ext (by show c.toNat = 32; omega))) ?_
      by_cases h2 : c = 9
      · subst h2; exact Ev.pos rfl ih'
      · refine Ev.neg (fun h => h2 (u8_ext (by show c.toNat = 9; omega))) ?_
        by_cases h3 : c = 10
        · subst h3; exact Ev.pos rfl ih'
        · refine Ev.neg (fun h => h3 (u8_ext (by show c.toNat = 10; omega))) ?_
          have : isBlank c = false := by unfold isBlank; simp [h1, h2, h3]
          rw [this]
          exact j1_prefix l hl i hi

theorem prefix_ev (l : List UInt8) (hl : l.length ≤ 1000000) : Ev (fun k => num_Prefix.f k (B l)) (prefixS l) := by
  unfold num_Prefix.f
  have := l0_prefix l hl l 0 rfl (Nat.zero_le _)
  exact this

end Go.Proofs.YtmobbclpfbkkkaaDoor.Pr
