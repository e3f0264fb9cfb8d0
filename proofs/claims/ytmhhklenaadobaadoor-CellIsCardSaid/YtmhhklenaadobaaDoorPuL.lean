/- The document's reading of a number is the program's. -/
import Derived.Test.YtmhhklenaadobaaDoorPuK
import Derived.Test.YtmhhklenaadobaaDoorPr18
import Derived.Test.YtmhhklenaadobaaDoorPr20
import Derived.Test.YtmhhklenaadobaaDoorPr21
import Derived.Test.YtmhhklenaadobaaDoorPr24
namespace Go.Proofs.YtmhhklenaadobaaDoor.Pr
open Go Go.RowKit Go.Proofs.YtmhhklenaadobaaDoorW.PrintWords Go.Proofs.YtmhhklenaadobaaDoorW.PrintLast Go.Proofs.YtmhhklenaadobaaDoorW.PrintMore

structure Sd where
  W : List UInt8
  P : List UInt8
  n : Nat
/-- the digits ahead of the stop, those behind it, how many bytes -/
def scanL : List UInt8 → Bool → List UInt8 → List UInt8 → Nat → Sd
  | [], _, W, P, n => ⟨W, P, n⟩
  | c :: r, dot, W, P, n =>
    if c = 46 ∧ dot = false then scanL r true W P (n + 1)
    else if isDig c then (if dot then scanL r dot W (P ++ [c]) (n + 1) else scanL r dot (W ++ [c]) P (n + 1))
    else ⟨W, P, n⟩
theorem partial_snoc (P : List UInt8) (c : UInt8) : ∀ u, partial_ (P ++ [c]) u = partial_ P u + (c.toNat - 48) * (u / 10 ^ P.length) := by
  induction P with
  | nil => intro u; simp [partial_]
  | cons d P ih =>
    intro u
    rw [List.cons_append, partial_, ih, partial_, List.length_cons, Nat.div_div_eq_div_mul, Nat.pow_succ, Nat.mul_comm (10 ^ P.length) 10, Nat.add_assoc]
theorem valF_snoc (W : List UInt8) (c : UInt8) : valF (W ++ [c]) 0 = 10 * valF W 0 + (c.toNat - 48) := by rw [valF_append]; rfl
theorem scan_scanL (r : List UInt8) : ∀ (dot : Bool) (W P : List UInt8) (n : Nat),
    scan r (W.length + P.length) dot (min (valF W 0) 10000000000000) (partial_ P 100000) (100000 / 10 ^ P.length) n =
      ⟨(scanL r dot W P n).W.length + (scanL r dot W P n).P.length, min (valF (scanL r dot W P n).W 0) 10000000000000, partial_ (scanL r dot W P n).P 100000, (scanL r dot W P n).n⟩ := by
  induction r with
  | nil => intro dot W P n; rfl
  | cons c r ih =>
    intro dot W P n
    rw [scan, scanL]
    by_cases h : c = 46 ∧ dot = false
    · rw [if_pos h, if_pos h]; exact ih true W P (n + 1)
    · rw [if_neg h, if_neg h]
      by_cases hc : isDig c = true
      · rw [if_pos hc, if_pos hc]
        cases dot with
        | true =>
          rw [if_pos rfl, if_pos rfl]
          have := ih true W (P ++ [c]) (n + 1)
          rw [partial_snoc, List.length_append, List.length_singleton, Nat.pow_succ, ← Nat.div_div_eq_div_mul] at this
          exact this
        | false =>
          rw [if_neg (by simp), if_neg (by simp)]
          have := ih false (W ++ [c]) P (n + 1)
          rw [valF_snoc, List.length_append, List.length_singleton] at this
          rw [show W.length + P.length + 1 = W.length + 1 + P.length by omega, show min (10 * min (valF W 0) 10000000000000 + (c.toNat - 48)) 10000000000000 = min (10 * valF W 0 + (c.toNat - 48)) 10000000000000 by omega]
          exact this
      · rw [if_neg hc, if_neg hc]
theorem scanL_dig (r : List UInt8) : ∀ (dot : Bool) (W P : List UInt8) (n : Nat), (∀ c ∈ W, isDig c = true) → (∀ c ∈ P, isDig c = true) →
    (∀ c ∈ (scanL r dot W P n).W, isDig c = true) ∧ (∀ c ∈ (scanL r dot W P n).P, isDig c = true) ∧ (scanL r dot W P n).W.length + (scanL r dot W P n).P.length ≤ W.length + P.length + r.length := by
  induction r with
  | nil => intro dot W P n hW hP; exact ⟨hW, hP, by simp [scanL]⟩
  | cons c r ih =>
    intro dot W P n hW hP
    rw [scanL]
    by_cases h : c = 46 ∧ dot = false
    · rw [if_pos h]
      obtain ⟨h1, h2, h3⟩ := ih true W P (n + 1) hW hP
      exact ⟨h1, h2, by rw [List.length_cons]; omega⟩
    · rw [if_neg h]
      by_cases hc : isDig c = true
      · rw [if_pos hc]
        have app : ∀ l : List UInt8, (∀ x ∈ l, isDig x = true) → ∀ x ∈ l ++ [c], isDig x = true := by
          intro l hl x hx
          rcases List.mem_append.1 hx with hx | hx
          · exact hl x hx
          · rw [List.mem_singleton] at hx; rw [hx]; exact hc
        cases dot with
        | true =>
          rw [if_pos rfl]
          obtain ⟨h1, h2, h3⟩ := ih true W (P ++ [c]) (n + 1) hW (app P hP)
          rw [List.length_append, List.length_singleton] at h3
          exact ⟨h1, h2, by rw [List.length_cons]; omega⟩
        | false =>
          rw [if_neg (by simp)]
          obtain ⟨h1, h2, h3⟩ := ih false (W ++ [c]) P (n + 1) (app W hW) hP
          rw [List.length_append, List.length_singleton] at h3
          exact ⟨h1, h2, by rw [List.length_cons]; omega⟩
      · rw [if_neg hc]; exact ⟨hW, hP, by simp⟩
theorem partial_take (l : List UInt8) : ∀ (k u : Nat), u < 10 ^ k → partial_ (l.take k) u = partial_ l u := by
  induction l with
  | nil => intro k u _; simp
  | cons c l ih =>
    intro k u h
    cases k with
    | zero =>
      have hu : u = 0 := by simpa using h
      subst hu
      have z : ∀ m : List UInt8, partial_ m 0 = 0 := by
        intro m
        induction m with
        | nil => rfl
        | cons d m ih => rw [partial_, Nat.zero_div, ih]; simp
      rw [z, z]
    | succ k => rw [List.take_succ_cons, partial_, partial_, ih k (u / 10) (by rw [Nat.pow_succ] at h; omega)]
theorem val_six (X : List UInt8) (h : X.length = 6) (a : Nat) : valF X a = a * 1000000 + partial_ X 100000 := by
  match X, h with
  | [c1, c2, c3, c4, c5, c6], _ =>
    simp only [valF, partial_]
    omega
theorem partial_zeros (P : List UInt8) (u : Nat) : partial_ (P ++ [48, 48, 48, 48, 48, 48]) u = partial_ P u := by
  have e : P ++ [48, 48, 48, 48, 48, 48] = ((((((P ++ [48]) ++ [48]) ++ [48]) ++ [48]) ++ [48]) ++ [48] : List UInt8) := by simp
  rw [e, partial_zero, partial_zero, partial_zero, partial_zero, partial_zero, partial_zero]
theorem clamp_cap (neg : Bool) (v p : Nat) (hp : p < 1000000) : clampS neg ((min v 10000000000000 * 1000000 + p : Nat) : Int) = clampS neg ((v * 1000000 + p : Nat) : Int) := by
  unfold clampS
  by_cases h : v ≤ 10000000000000
  · rw [Nat.min_eq_left h]
  · rw [Nat.min_eq_right (by omega), if_neg (show ¬ ((v * 1000000 + p : Nat) : Int) < 4611686018427387903 by omega), if_neg (show ¬ ((10000000000000 * 1000000 + p : Nat) : Int) < 4611686018427387903 by omega)]
theorem partial_lt (P : List UInt8) (hP : ∀ c ∈ P, isDig c = true) : partial_ P 100000 < 1000000 := by
  have key : ∀ (Q : List UInt8), (∀ c ∈ Q, isDig c = true) → ∀ u, 1 ≤ u → partial_ Q u < 10 * u := by
    intro Q
    induction Q with
    | nil => intro _ u hu; simp [partial_]; omega
    | cons c Q ih =>
      intro hQ u hu
      have hc : 48 ≤ c.toNat ∧ c.toNat ≤ 57 := by have := hQ c (by simp); unfold isDig at this; simpa using this
      have hm : (c.toNat - 48) * u ≤ 9 * u := Nat.mul_le_mul_right _ (by omega)
      rw [partial_]
      by_cases h0 : u / 10 = 0
      · have z : ∀ m : List UInt8, partial_ m 0 = 0 := by
          intro m
          induction m with
          | nil => rfl
          | cons d m ih => rw [partial_, Nat.zero_div, ih]; simp
        rw [h0, z]; omega
      · have := ih (fun x hx => hQ x (by simp [hx])) (u / 10) (by omega)
        omega
  have := key P hP 100000 (by omega)
  omega

theorem ref_fin (l : List UInt8) (neg : Bool) (hl : l.length ≤ 1000000) (W P : List UInt8) (hW : ∀ c ∈ W, isDig c = true) (hP : ∀ c ∈ P, isDig c = true) (hn : W.length + P.length ≤ l.length) (i : Nat) :
    ∀ g : Nat → Option (Int × Int), (∀ k, g k = if (wrap64 (((B W).size : Int) + ((B P).size : Int))) = 0 then (some (0, 0)) else (if (B P).size + 6 ≤ 9223372036854775807 then (if (0 : Int) ≤ 6 then (if 6 ≤ ((B P ++ (⟨#[48, 48, 48, 48, 48, 48]⟩ : ByteArray)).size : Int) then (if (B W).size + ((B P ++ (⟨#[48, 48, 48, 48, 48, 48]⟩ : ByteArray)).extract 0 6).size ≤ 9223372036854775807 then ((scriberef05_strip.f k (B W ++ ((B P ++ (⟨#[48, 48, 48, 48, 48, 48]⟩ : ByteArray)).extract 0 6))).bind fun t263 => ((scriberef05_Signed.f k neg t263).bind fun t264 => (some (t264, (i : Int))))) else (none)) else (none)) else (none)) else (none))) →
      Ev g (endS neg ⟨W.length + P.length, min (valF W 0) 10000000000000, partial_ P 100000, i⟩) := by
  intro g hg
  refine Ev.congr hg ?_
  unfold endS
  simp only
  rw [w64 (by rw [B_size, B_size]; omega) (by rw [B_size, B_size]; omega)]
  by_cases h : W.length + P.length = 0
  · exact Ev.pos (by rw [B_size, B_size]; omega) (Ev.const (by rw [if_pos h]))
  · refine Ev.neg (by rw [B_size, B_size]; omega) (Ev.pos (by rw [B_size]; omega) (Ev.pos (by omega) ?_))
    rw [if_neg h, show (⟨#[48, 48, 48, 48, 48, 48]⟩ : ByteArray) = B [48, 48, 48, 48, 48, 48] from rfl, B_append, B_extract]
    have h6 : ((P ++ [48, 48, 48, 48, 48, 48]).take 6).length = 6 := by rw [List.length_take, List.length_append]; simp
    simp only [List.drop_zero, Nat.sub_zero, B_append, B_size]
    refine Ev.pos (by simp; omega) (Ev.pos (by omega) ?_)
    have hall : ∀ c ∈ W ++ (P ++ [48, 48, 48, 48, 48, 48]).take 6, isDig c = true := by
      intro c hc
      rcases List.mem_append.1 hc with hc | hc
      · exact hW c hc
      · rcases List.mem_append.1 (List.mem_of_mem_take hc) with hc | hc
        · exact hP c hc
        · have : c = 48 := by simpa using hc
          subst this; decide
    have hlen : (W ++ (P ++ [48, 48, 48, 48, 48, 48]).take 6).length ≤ 1000000 + 6 := by rw [List.length_append, h6]; omega
    refine Ev.bind' (strip_ev _ (by omega)) ?_
    have hlen2 : ((W ++ (P ++ [48, 48, 48, 48, 48, 48]).take 6).dropWhile (· == 48)).length ≤ 1000006 := Nat.le_trans (List.dropWhile_suffix _).length_le hlen
    have hs := signed_ev ((W ++ (P ++ [48, 48, 48, 48, 48, 48]).take 6).dropWhile (· == 48)) neg (fun c hc => hall c ((List.dropWhile_sublist _).subset hc)) (by omega)
    rw [valF_strip, valF_append, val_six _ h6, partial_take _ 6 100000 (by decide), partial_zeros] at hs
    rw [clamp_cap neg _ _ (partial_lt P hP)]
    exact Ev.bind' (f := fun _ t => some (t, (i : Int))) hs (Ev.now _)

theorem ref_l1 (l : List UInt8) (neg : Bool) (hl : l.length ≤ 1000000) (r : List UInt8) :
    ∀ (i : Nat) (dot : Bool) (W P : List UInt8), l.drop i = r → i ≤ l.length → W.length + P.length ≤ i → (∀ c ∈ W, isDig c = true) → (∀ c ∈ P, isDig c = true) →
      Ev (fun k => scriberef05_Prefix.l1 k (B l) (i : Int) neg (B W) (B P) (if dot then 1 else 0))
        (endS neg ⟨(scanL r dot W P i).W.length + (scanL r dot W P i).P.length, min (valF (scanL r dot W P i).W 0) 10000000000000, partial_ (scanL r dot W P i).P 100000, (scanL r dot W P i).n⟩) := by
  have no : ∀ (i : Nat) (dot : Bool) (W P : List UInt8), i ≤ l.length → W.length + P.length ≤ i → (∀ c ∈ W, isDig c = true) → (∀ c ∈ P, isDig c = true) →
      Ev (fun k => scriberef05_Prefix.j6 k (B l) (i : Int) neg (B W) (B P) (if dot then 1 else 0) false) (endS neg ⟨W.length + P.length, min (valF W 0) 10000000000000, partial_ P 100000, i⟩) := by
    intro i dot W P hi hn hW hP
    refine Ev.succ ?_
    simp only [scriberef05_Prefix.j6]
    refine Ev.neg (by simp) ?_
    exact ref_fin l neg hl W P hW hP (by omega) i _ (fun _ => rfl)
  induction r with
  | nil =>
    intro i dot W P hr hi hn hW hP
    have := drop_nil hr
    refine Ev.succ ?_
    simp only [scriberef05_Prefix.l1]
    exact Ev.neg (by rw [B_size]; omega) (no i dot W P hi hn hW hP)
  | cons c r ih =>
    intro i dot W P hr hi hn hW hP
    obtain ⟨hb, hil, hr'⟩ := bt_drop hr
    have hc := u8_lt c
    have hw1 : wrap64 ((i : Int) + 1) = ((i + 1 : Nat) : Int) := by rw [w64 (by omega) (by omega)]; omega
    have yes : (c = 46 ∧ dot = false) ∨ isDig c = true → Ev (fun k => scriberef05_Prefix.j6 k (B l) (i : Int) neg (B W) (B P) (if dot then 1 else 0) true)
        (endS neg ⟨(scanL (c :: r) dot W P i).W.length + (scanL (c :: r) dot W P i).P.length, min (valF (scanL (c :: r) dot W P i).W 0) 10000000000000, partial_ (scanL (c :: r) dot W P i).P 100000, (scanL (c :: r) dot W P i).n⟩) := by
      intro h
      refine Ev.succ ?_
      simp only [scriberef05_Prefix.j6, hb, hw1]
      refine Ev.pos (by simp) (Ev.pos (by omega) (Ev.pos (by rw [B_size]; omega) ?_))
      by_cases h46 : c = 46
      · subst h46
        have hd : dot = false := by
          rcases h with h | h
          · exact h.2
          · exact absurd h (by decide)
        subst hd
        refine Ev.pos rfl ?_
        rw [scanL, if_pos ⟨rfl, rfl⟩]
        exact ih (i + 1) true W P hr' (by omega) (by omega) hW hP
      · have hdg : isDig c = true := by
          rcases h with h | h
          · exact absurd h.1 h46
          · exact h
        refine Ev.neg (fun h => h46 (u8_ext (by show c.toNat = 46; omega))) ?_
        have app : ∀ l : List UInt8, (∀ x ∈ l, isDig x = true) → ∀ x ∈ l ++ [c], isDig x = true := by
          intro l hl x hx
          rcases List.mem_append.1 hx with hx | hx
          · exact hl x hx
          · rw [List.mem_singleton] at hx; rw [hx]; exact hdg
        have hx : (B l).extract ((i : Nat) : Int).toNat ((i + 1 : Nat) : Int).toNat = B [c] := by
          rw [B_extract, Int.toNat_natCast, Int.toNat_natCast, hr, show i + 1 - i = 1 by omega]; rfl
        have es : scanL (c :: r) dot W P i = (if dot then scanL r dot W (P ++ [c]) (i + 1) else scanL r dot (W ++ [c]) P (i + 1)) := by
          rw [scanL, if_neg (by simp [h46]), if_pos hdg]
        rw [hx, es]
        cases dot with
        | false =>
          refine Ev.pos (by simp) (Ev.pos (by omega) (Ev.pos (by rw [B_size]; omega) (Ev.pos (by rw [B_size, B_size, List.length_singleton]; omega) ?_)))
          rw [B_append]
          have := ih (i + 1) false (W ++ [c]) P hr' (by omega) (by rw [List.length_append, List.length_singleton]; omega) (app W hW) hP
          exact this
        | true =>
          refine Ev.neg (by simp) (Ev.pos (by omega) (Ev.pos (by rw [B_size]; omega) (Ev.pos (by rw [B_size, B_size, List.length_singleton]; omega) ?_)))
          rw [B_append]
          have := ih (i + 1) true W (P ++ [c]) hr' (by omega) (by rw [List.length_append, List.length_singleton]; omega) hW (app P hP)
          exact this
    have dots : ¬ isDig c = true → Ev (fun k => if (c.toNat : Int) = 46 then (scriberef05_Prefix.j6 k (B l) (i : Int) neg (B W) (B P) (if dot then 1 else 0) ((if dot then (1 : Int) else 0) == 0)) else (scriberef05_Prefix.j6 k (B l) (i : Int) neg (B W) (B P) (if dot then 1 else 0) false))
        (endS neg ⟨(scanL (c :: r) dot W P i).W.length + (scanL (c :: r) dot W P i).P.length, min (valF (scanL (c :: r) dot W P i).W 0) 10000000000000, partial_ (scanL (c :: r) dot W P i).P 100000, (scanL (c :: r) dot W P i).n⟩) := by
      intro hdg
      by_cases h46 : c = 46
      · refine Ev.pos (by subst h46; rfl) ?_
        cases dot with
        | false => exact yes (Or.inl ⟨h46, rfl⟩)
        | true =>
          have es : scanL (c :: r) true W P i = ⟨W, P, i⟩ := by rw [scanL, if_neg (by simp), if_neg hdg]
          rw [es]
          exact no i true W P hi hn hW hP
      · refine Ev.neg (fun h => h46 (u8_ext (by show c.toNat = 46; omega))) ?_
        have es : scanL (c :: r) dot W P i = ⟨W, P, i⟩ := by rw [scanL, if_neg (by simp [h46]), if_neg hdg]
        rw [es]
        exact no i dot W P hi hn hW hP
    refine Ev.succ ?_
    simp only [scriberef05_Prefix.l1, hb]
    refine Ev.pos (by rw [B_size]; omega) (Ev.pos (by omega) ?_)
    by_cases h1 : (c.toNat : Int) ≥ 48
    · refine Ev.pos h1 ?_
      by_cases h2 : (c.toNat : Int) ≤ 57
      · exact Ev.pos h2 (yes (Or.inr (by unfold isDig; simp; omega)))
      · exact Ev.neg h2 (dots (by unfold isDig; simp; omega))
    · exact Ev.neg h1 (dots (by unfold isDig; simp; omega))

theorem ref_j1 (l : List UInt8) (hl : l.length ≤ 1000000) (i : Nat) (hi : i ≤ l.length) :
    Ev (fun k => scriberef05_Prefix.j1 k (B l) (i : Int)) (endS (signOf (l.drop i)).1 (scan (l.drop (i + (signOf (l.drop i)).2)) 0 false 0 0 100000 (i + (signOf (l.drop i)).2))) := by
  have go : ∀ (j : Nat) (neg : Bool), j ≤ l.length → Ev (fun k => scriberef05_Prefix.j4 k (B l) (j : Int) neg) (endS neg (scan (l.drop j) 0 false 0 0 100000 j)) := by
    intro j neg hj
    refine Ev.succ ?_
    simp only [scriberef05_Prefix.j4]
    have := scan_scanL (l.drop j) false [] [] j
    simp only [List.length_nil, valF, partial_, Nat.zero_add, Nat.pow_zero, Nat.div_one, Nat.zero_min] at this
    rw [this]
    exact ref_l1 l neg hl (l.drop j) j false [] [] rfl hj (by simp) (by simp) (by simp)
  have hw1 : wrap64 ((i : Int) + 1) = ((i + 1 : Nat) : Int) := by rw [w64 (by omega) (by omega)]; omega
  refine Ev.succ ?_
  simp only [scriberef05_Prefix.j1]
  cases hr : l.drop i with
  | nil =>
    have := drop_nil hr
    refine Ev.neg (by rw [B_size]; omega) (Ev.succ ?_)
    simp only [scriberef05_Prefix.j2]
    refine Ev.neg (by rw [B_size]; omega) (Ev.succ ?_)
    simp only [scriberef05_Prefix.j3]
    exact Ev.neg (by simp) (go i false hi)
  | cons c r =>
    obtain ⟨hb, hil, hr'⟩ := bt_drop hr
    refine Ev.pos (by rw [B_size]; omega) (Ev.pos (by omega) (Ev.succ ?_))
    simp only [scriberef05_Prefix.j2, hb]
    refine Ev.pos (by rw [B_size]; omega) (Ev.pos (by omega) ?_)
    by_cases h45 : c = 45
    · subst h45
      refine Ev.pos (by rfl) (Ev.succ ?_)
      simp only [scriberef05_Prefix.j3]
      refine Ev.pos (by simp) ?_
      rw [hw1, sign_minus]
      exact go (i + 1) true (by omega)
    · have hn : (((c.toNat : Int) == 45) = false) := by
        rw [beq_eq_false_iff_ne]; intro h; exact h45 (u8_ext (by show c.toNat = 45; omega))
      rw [hn]
      refine Ev.neg (fun h => h45 (u8_ext (by show c.toNat = 45; omega))) (Ev.succ ?_)
      simp only [scriberef05_Prefix.j3]
      by_cases h43 : c = 43
      · subst h43
        refine Ev.pos (by rfl) ?_
        rw [hw1, sign_plus]
        exact go (i + 1) false (by omega)
      · have hn2 : (((c.toNat : Int) == 43) = false) := by
          rw [beq_eq_false_iff_ne]; intro h; exact h43 (u8_ext (by show c.toNat = 43; omega))
        rw [hn2, sign_none r h45 h43]
        exact Ev.neg (by simp) (go i false hi)
theorem blank_some (c : UInt8) : scriberef05_blank.f (c.toNat : Int) = some (isBlank c) := by
  unfold scriberef05_blank.f isBlank
  have h1 : (c.toNat : Int) = 32 ↔ c = 32 := byte_eq (n := 32) (by omega)
  have h2 : (c.toNat : Int) = 9 ↔ c = 9 := byte_eq (n := 9) (by omega)
  have h3 : (c.toNat : Int) = 10 ↔ c = 10 := byte_eq (n := 10) (by omega)
  by_cases e1 : c = 32
  · subst e1; rfl
  · rw [if_neg (fun h => e1 (h1.1 h))]
    by_cases e2 : c = 9
    · subst e2; rfl
    · rw [if_neg (fun h => e2 (h2.1 h))]
      by_cases e3 : c = 10
      · subst e3; rfl
      · rw [show ((c.toNat : Int) == 10) = false by rw [beq_eq_false_iff_ne]; exact fun h => e3 (h3.1 h)]
        simp [e1, e2, e3]
theorem ref_l0 (l : List UInt8) (hl : l.length ≤ 1000000) (r : List UInt8) : ∀ i, l.drop i = r → i ≤ l.length →
    Ev (fun k => scriberef05_Prefix.l0 k (B l) (i : Int)) (endS (signOf (l.drop (dropBlanks r i))).1 (scan (l.drop (dropBlanks r i + (signOf (l.drop (dropBlanks r i))).2)) 0 false 0 0 100000 (dropBlanks r i + (signOf (l.drop (dropBlanks r i))).2))) := by
  induction r with
  | nil =>
    intro i hr hi
    have := drop_nil hr
    refine Ev.succ ?_
    simp only [scriberef05_Prefix.l0]
    exact Ev.neg (by rw [B_size]; omega) (ref_j1 l hl i hi)
  | cons c r ih =>
    intro i hr hi
    obtain ⟨hb, hil, hr'⟩ := bt_drop hr
    have hw1 : wrap64 ((i : Int) + 1) = ((i + 1 : Nat) : Int) := by rw [w64 (by omega) (by omega)]; omega
    refine Ev.succ ?_
    simp only [scriberef05_Prefix.l0, hb, hw1]
    refine Ev.pos (by rw [B_size]; omega) (Ev.pos (by omega) (Ev.bindc (blank_some c) ?_))
    rw [dropBlanks]
    cases h : isBlank c with
    | true => exact Ev.pos rfl (ih (i + 1) hr' (by omega))
    | false => exact Ev.neg (by simp) (ref_j1 l hl i hi)
theorem refPrefix_ev (l : List UInt8) (hl : l.length ≤ 1000000) : Ev (fun k => scriberef05_Prefix.f k (B l)) (prefixS l) := by
  unfold scriberef05_Prefix.f
  exact ref_l0 l hl l 0 rfl (Nat.zero_le _)

theorem ref_looks_loop (l : List UInt8) (x : Int) (hl : l.length ≤ 1000000) (r : List UInt8) : ∀ i, l.drop i = r → i ≤ l.length →
    Ev (fun k => scriberef05_Looks.l0 k (B l) x (i : Int)) (x, r.all isBlank) := by
  induction r with
  | nil =>
    intro i hr hi
    have := drop_nil hr
    refine Ev.succ ?_
    simp only [scriberef05_Looks.l0]
    refine Ev.neg (by rw [B_size]; omega) (Ev.const ?_)
    rw [show ((i : Int) == ((B l).size : Int)) = true by rw [beq_iff_eq, B_size]; omega]; rfl
  | cons c r ih =>
    intro i hr hi
    obtain ⟨hb, hil, hr'⟩ := bt_drop hr
    have hw1 : wrap64 ((i : Int) + 1) = ((i + 1 : Nat) : Int) := by rw [w64 (by omega) (by omega)]; omega
    refine Ev.succ ?_
    simp only [scriberef05_Looks.l0, hb, hw1]
    refine Ev.pos (by rw [B_size]; omega) (Ev.pos (by omega) (Ev.bindc (blank_some c) ?_))
    rw [List.all_cons]
    cases h : isBlank c with
    | true => exact Ev.pos rfl (ih (i + 1) hr' (by omega))
    | false =>
      refine Ev.neg (by simp) (Ev.const ?_)
      rw [show ((i : Int) == ((B l).size : Int)) = false by rw [beq_eq_false_iff_ne, B_size]; omega]; rfl
theorem dropWhile_nil (p : UInt8 → Bool) (l : List UInt8) : l.dropWhile p = [] ↔ ∀ c ∈ l, p c = true := by
  induction l with
  | nil => simp
  | cons c l ih =>
    cases h : p c with
    | true => rw [List.dropWhile_cons_of_pos h, ih]; simp [h]
    | false => rw [List.dropWhile_cons_of_neg (by simp [h])]; simp [h]
theorem mem_dropWhile (p : UInt8 → Bool) (l : List UInt8) {c : UInt8} (h : p c = false) (hc : c ∈ l) : c ∈ l.dropWhile p := by
  induction l with
  | nil => cases hc
  | cons d l ih =>
    cases hd : p d with
    | true =>
      rw [List.dropWhile_cons_of_pos hd]
      rcases List.mem_cons.1 hc with rfl | hc
      · rw [h] at hd; cases hd
      · exact ih hc
    | false => rw [List.dropWhile_cons_of_neg (by simp [hd])]; exact hc
theorem trim_blank (r : List UInt8) : (Lib.trimS r [32, 9, 10] == []) = r.all isBlank := by
  have hb : ∀ c : UInt8, ([32, 9, 10] : List UInt8).contains c = isBlank c := by
    intro c
    unfold isBlank
    by_cases e1 : c = 32
    · subst e1; decide
    · by_cases e2 : c = 9
      · subst e2; decide
      · by_cases e3 : c = 10
        · subst e3; decide
        · simp [e1, e2, e3]
  unfold Lib.trimS Lib.trimLeftS Lib.trimRightS
  rw [Bool.eq_iff_iff, beq_iff_eq, List.all_eq_true]
  constructor
  · intro h c hc
    rw [dropWhile_nil] at h
    by_cases hbc : isBlank c = true
    · exact hbc
    · exfalso
      have hm : c ∈ (r.reverse.dropWhile fun x => ([32, 9, 10] : List UInt8).contains x).reverse := by
        rw [List.mem_reverse]
        exact mem_dropWhile _ _ (by rw [hb]; simpa using hbc) (List.mem_reverse.2 hc)
      have := h c hm
      rw [hb] at this
      exact hbc this
  · intro h
    have e : r.reverse.dropWhile (fun x => ([32, 9, 10] : List UInt8).contains x) = [] := by
      rw [dropWhile_nil]
      intro c hc
      rw [hb]
      exact h c (List.mem_reverse.1 hc)
    rw [e]; rfl
theorem refLooks_ev (l : List UInt8) (hl : l.length ≤ 1000000) : Ev (fun k => scriberef05_Looks.f k (B l)) (looksS l) := by
  unfold scriberef05_Looks.f
  refine Ev.bind' (refPrefix_ev l hl) ?_
  obtain ⟨h0, h1⟩ := prefix_at l
  unfold looksS
  by_cases h : (prefixS l).2 = 0
  · refine Ev.pos h (Ev.const ?_)
    rw [if_neg (by omega)]
  · refine Ev.neg h ?_
    rw [if_pos (by omega), trim_blank]
    have := ref_looks_loop l (prefixS l).1 hl (l.drop (prefixS l).2.toNat) (prefixS l).2.toNat rfl (by omega)
    rw [Int.toNat_of_nonneg h0] at this
    exact this

end Go.Proofs.YtmhhklenaadobaaDoor.Pr
