/- num: a number's text is read back as that number. -/
import Derived.Test.YtmobbclpfbkkkaaDoorPuG
import Derived.Test.YtmobbclpfbkkkaaDoorPuH
namespace Go.Proofs.YtmobbclpfbkkkaaDoor.Pr
open Go Go.RowKit Go.Proofs.YtmobbclpfbkkkaaDoorW.PrintWords Go.Proofs.YtmobbclpfbkkkaaDoorW.PrintLast Go.Proofs.YtmobbclpfbkkkaaDoorW.PrintMore

theorem ofNat_dig (d : Nat) (h : d < 10) : (UInt8.ofNat (48 + d)).toNat = 48 + d := by
  rw [UInt8.toNat_ofNat']; exact Nat.mod_eq_of_lt (by omega)
theorem dec_snoc (u : Nat) (h : ¬ u < 10) : Lib.decDigits u = Lib.decDigits (u / 10) ++ [UInt8.ofNat (48 + u % 10)] := by
  rw [Lib.decDigits, dif_neg h]
theorem dec_one (u : Nat) (h : u < 10) : Lib.decDigits u = [UInt8.ofNat (48 + u)] := Lib.decDigits_one h
theorem dec_dig (u : Nat) : ∀ c ∈ Lib.decDigits u, isDig c = true := by
  induction u using Nat.strongRecOn with
  | _ u ih =>
    intro c hc
    by_cases h : u < 10
    · rw [dec_one u h, List.mem_singleton] at hc
      subst hc
      unfold isDig; rw [ofNat_dig u h]; simp; omega
    · rw [dec_snoc u h, List.mem_append, List.mem_singleton] at hc
      rcases hc with hc | rfl
      · exact ih (u / 10) (by omega) c hc
      · unfold isDig; rw [ofNat_dig _ (by omega)]; simp; omega
theorem dig_ne {c : UInt8} (h : isDig c = true) : c ≠ 46 ∧ c ≠ 45 ∧ c ≠ 43 ∧ isBlank c = false := by
  unfold isDig at h
  simp only [Bool.and_eq_true, decide_eq_true_eq] at h
  refine ⟨?_, ?_, ?_, ?_⟩
  · rintro rfl; exact absurd h.1 (by decide)
  · rintro rfl; exact absurd h.1 (by decide)
  · rintro rfl; exact absurd h.1 (by decide)
  · unfold isBlank
    have h1 : c ≠ 32 := by rintro rfl; exact absurd h.1 (by decide)
    have h2 : c ≠ 9 := by rintro rfl; exact absurd h.1 (by decide)
    have h3 : c ≠ 10 := by rintro rfl; exact absurd h.1 (by decide)
    simp [h1, h2, h3]
theorem scan_dig {c : UInt8} (h : isDig c = true) (r : List UInt8) (dg : Nat) (w p u n : Nat) :
    scan (c :: r) dg false w p u n = scan r (dg + 1) false (min (10 * w + (c.toNat - 48)) 10000000000000) p u (n + 1) := by
  rw [scan, if_neg (by simp [(dig_ne h).1]), if_pos h]; rfl
theorem scan_digd {c : UInt8} (h : isDig c = true) (r : List UInt8) (dg : Nat) (w p u n : Nat) :
    scan (c :: r) dg true w p u n = scan r (dg + 1) true w (p + (c.toNat - 48) * u) (u / 10) (n + 1) := by
  rw [scan, if_neg (by simp), if_pos h]; rfl

theorem scan_dec (u : Nat) (hu : u ≤ 10000000000000) : ∀ (r : List UInt8) (dg p un n : Nat),
    scan (Lib.decDigits u ++ r) dg false 0 p un n = scan r (dg + Lib.nDigits u) false u p un (n + Lib.nDigits u) := by
  induction u using Nat.strongRecOn with
  | _ u ih =>
    intro r dg p un n
    by_cases h : u < 10
    · rw [dec_one u h, Lib.nDigits_small h, List.singleton_append, scan_dig (dec_dig u _ (by rw [dec_one u h]; simp)), ofNat_dig u h]
      congr 1
      omega
    · rw [dec_snoc u h, Lib.nDigits_big h, List.append_assoc, ih (u / 10) (by omega) (by omega), List.singleton_append, scan_dig (dec_dig u _ (by rw [dec_snoc u h]; simp)), ofNat_dig _ (by omega)]
      congr 1
      omega

def partial_ : List UInt8 → Nat → Nat
  | [], _ => 0
  | c :: r, u => (c.toNat - 48) * u + partial_ r (u / 10)
theorem scan_part (l : List UInt8) : (∀ c ∈ l, isDig c = true) → ∀ (r : List UInt8) (dg w p u n : Nat),
    ∃ u', scan (l ++ r) dg true w p u n = scan r (dg + l.length) true w (p + partial_ l u) u' (n + l.length) := by
  induction l with
  | nil => intro _ r dg w p u n; exact ⟨u, rfl⟩
  | cons c l ih =>
    intro h r dg w p u n
    rw [List.cons_append, scan_digd (h c (by simp))]
    obtain ⟨u', e⟩ := ih (fun x hx => h x (by simp [hx])) r (dg + 1) w (p + (c.toNat - 48) * u) (u / 10) (n + 1)
    refine ⟨u', ?_⟩
    rw [e, partial_, List.length_cons, show dg + 1 + l.length = dg + (l.length + 1) by omega, show n + 1 + l.length = n + (l.length + 1) by omega, Nat.add_assoc]
theorem partial_zero (l : List UInt8) : ∀ u, partial_ (l ++ [48]) u = partial_ l u := by
  induction l with
  | nil => intro u; simp [partial_]
  | cons c l ih => intro u; rw [List.cons_append, partial_, partial_, ih]
theorem partial_trim (n : Nat) : ∀ (l : List UInt8), l.length = n → ∀ u, partial_ (Lib.trimRightB l 48) u = partial_ l u := by
  induction n with
  | zero => intro l hl u; obtain rfl := List.eq_nil_of_length_eq_zero hl; rfl
  | succ n ih =>
    intro l hl u
    rcases List.eq_nil_or_concat l with rfl | ⟨m, d, rfl⟩
    · simp at hl
    · rw [List.concat_eq_append] at *
      rw [trimRB_snoc]
      by_cases hd : d = 48
      · subst hd
        rw [show ((48 : UInt8) == 48) = true by decide, if_pos rfl, partial_zero]
        exact ih m (by simpa using hl) u
      · rw [show (d == 48) = false by simpa using hd]; rfl
theorem mem_trimRB {l : List UInt8} {d c : UInt8} (h : c ∈ Lib.trimRightB l d) : c ∈ l := by
  unfold Lib.trimRightB at h
  rw [List.mem_reverse] at h
  have := (List.dropWhile_sublist (l := l.reverse) (· == d)).subset h
  simpa using this
theorem six (f : Nat) (hf : f < 1000000) : (Lib.decDigits (1000000 + f)).drop 1 =
    [UInt8.ofNat (48 + f / 100000 % 10), UInt8.ofNat (48 + f / 10000 % 10), UInt8.ofNat (48 + f / 1000 % 10), UInt8.ofNat (48 + f / 100 % 10), UInt8.ofNat (48 + f / 10 % 10), UInt8.ofNat (48 + f % 10)] := by
  rw [dec_snoc _ (by omega), dec_snoc _ (by omega), dec_snoc _ (by omega), dec_snoc _ (by omega), dec_snoc _ (by omega), dec_snoc _ (by omega), dec_one _ (by omega)]
  simp only [List.cons_append, List.nil_append, List.drop_succ_cons, List.drop_zero]
  rw [show (1000000 + f) / 10 / 10 / 10 / 10 / 10 % 10 = f / 100000 % 10 by omega, show (1000000 + f) / 10 / 10 / 10 / 10 % 10 = f / 10000 % 10 by omega, show (1000000 + f) / 10 / 10 / 10 % 10 = f / 1000 % 10 by omega,
    show (1000000 + f) / 10 / 10 % 10 = f / 100 % 10 by omega, show (1000000 + f) / 10 % 10 = f / 10 % 10 by omega, show (1000000 + f) % 10 = f % 10 by omega]
theorem partial_places (f : Nat) (hf : f < 1000000) : partial_ (places f) 100000 = f := by
  unfold places
  rw [partial_trim _ _ rfl, six f hf]
  simp only [partial_]
  rw [ofNat_dig _ (by omega), ofNat_dig _ (by omega), ofNat_dig _ (by omega), ofNat_dig _ (by omega), ofNat_dig _ (by omega), ofNat_dig _ (by omega)]
  omega
theorem places_dig (f : Nat) : ∀ c ∈ places f, isDig c = true := fun c hc => dec_dig _ c (List.mem_of_mem_drop (mem_trimRB hc))

/-- what may stand behind a number: no digit, no stop -/
def Stops (r : List UInt8) : Prop := ∀ c r', r = c :: r' → c ≠ 46 ∧ isDig c = false
theorem scan_stop {r : List UInt8} (h : Stops r) (dg : Nat) (dot : Bool) (w p u n : Nat) : scan r dg dot w p u n = ⟨dg, w, p, n⟩ := by
  cases r with
  | nil => rfl
  | cons c r =>
    obtain ⟨h1, h2⟩ := h c r rfl
    rw [scan, if_neg (by simp [h1]), h2]; rfl
theorem scan_abs (u : Nat) (hu : u < 4611686018427387904) (r : List UInt8) (h : Stops r) (n : Nat) :
    ∃ dg, 0 < dg ∧ scan (textAbs u ++ r) 0 false 0 0 100000 n = ⟨dg, u / 1000000, u % 1000000, n + (textAbs u).length⟩ := by
  unfold textAbs
  rw [List.append_assoc, scan_dec _ (by omega), List.length_append, Lib.decDigits_length]
  have hp := Lib.nDigits_pos (u / 1000000)
  by_cases hf : u % 1000000 = 0
  · rw [if_pos hf, List.nil_append, scan_stop h]
    exact ⟨0 + Lib.nDigits (u / 1000000), by omega, by rw [hf]; rfl⟩
  · rw [if_neg hf, List.cons_append, scan, if_pos ⟨rfl, rfl⟩]
    obtain ⟨u', e⟩ := scan_part (places (u % 1000000)) (places_dig _) r (0 + Lib.nDigits (u / 1000000)) (u / 1000000) 0 100000 (n + Lib.nDigits (u / 1000000) + 1)
    rw [e, partial_places _ (Nat.mod_lt _ (by omega)), scan_stop h]
    refine ⟨0 + Lib.nDigits (u / 1000000) + (places (u % 1000000)).length, by omega, ?_⟩
    rw [List.length_cons, Nat.zero_add (u % 1000000)]
    congr 1
    omega

theorem abs_head (u : Nat) : ∃ c r, textAbs u = c :: r ∧ isDig c = true := by
  unfold textAbs
  cases h : Lib.decDigits (u / 1000000) with
  | nil => have := Lib.decDigits_length (u / 1000000); rw [h, List.length_nil] at this; have := Lib.nDigits_pos (u / 1000000); omega
  | cons c r => exact ⟨c, _, rfl, dec_dig _ c (by rw [h]; simp)⟩
theorem drop_blanks (p : List UInt8) (hp : ∀ c ∈ p, isBlank c = true) (r : List UInt8) (n : Nat) : dropBlanks (p ++ r) n = dropBlanks r (n + p.length) := by
  induction p generalizing n with
  | nil => rfl
  | cons c p ih =>
    rw [List.cons_append, dropBlanks, if_pos (hp c (by simp)), ih (fun x hx => hp x (by simp [hx])), List.length_cons]
    congr 1; omega
theorem drop_none {c : UInt8} (h : isBlank c = false) (r : List UInt8) (n : Nat) : dropBlanks (c :: r) n = n := by
  rw [dropBlanks, h]; rfl

theorem prefix_text (a : Int) (h0 : -4611686018427387903 ≤ a) (h1 : a ≤ 4611686018427387903) (p r : List UInt8) (hp : ∀ c ∈ p, isBlank c = true) (hr : Stops r) :
    prefixS (p ++ (textS a ++ r)) = (a, ((p.length + (textS a).length : Nat) : Int)) := by
  obtain ⟨c, m, hcm, hd⟩ := abs_head a.natAbs
  have hne := dig_ne hd
  obtain ⟨dg, hdg, hsc⟩ := scan_abs a.natAbs (by omega) r hr (p.length + (if a < 0 then 1 else 0))
  unfold prefixS
  have hcl : ∀ s : Bool, clampS s ((a.natAbs / 1000000 * 1000000 + a.natAbs % 1000000 : Nat) : Int) = if s then -(a.natAbs : Int) else (a.natAbs : Int) := by
    intro s
    rw [show a.natAbs / 1000000 * 1000000 + a.natAbs % 1000000 = a.natAbs by omega]
    unfold clampS
    cases s
    · simp only [Bool.false_eq_true, if_false]; split <;> omega
    · simp only [if_true]; split <;> omega
  by_cases ha : a < 0
  · have et : textS a = 45 :: textAbs a.natAbs := by unfold textS; rw [if_pos ha]; rfl
    have e1 : dropBlanks (p ++ (textS a ++ r)) 0 = p.length := by
      rw [drop_blanks p hp, et, List.cons_append, drop_none (by decide), Nat.zero_add]
    simp only [e1, List.drop_left' rfl]
    rw [et, List.cons_append, sign_minus]
    simp only
    have e2 : (p ++ 45 :: (textAbs a.natAbs ++ r)).drop (p.length + 1) = textAbs a.natAbs ++ r := by
      rw [← List.drop_drop, List.drop_left' rfl]; rfl
    rw [if_pos ha] at hsc
    rw [e2, hsc]
    unfold endS
    rw [if_neg (by simp only; omega)]
    simp only [hcl, if_true, List.length_cons]
    refine Prod.ext ?_ ?_
    · simp only; omega
    · simp only; omega
  · have et : textS a = textAbs a.natAbs := by unfold textS; rw [if_neg ha]; rfl
    have e1 : dropBlanks (p ++ (textS a ++ r)) 0 = p.length := by
      rw [drop_blanks p hp, et, hcm, List.cons_append, drop_none hne.2.2.2, Nat.zero_add]
    simp only [e1, List.drop_left' rfl]
    rw [if_neg ha, Nat.add_zero] at hsc
    rw [et]
    have es : signOf (textAbs a.natAbs ++ r) = (false, 0) := by rw [hcm, List.cons_append, sign_none _ hne.2.1 hne.2.2.1]
    rw [es]
    simp only [Nat.add_zero, List.drop_left' rfl]
    rw [hsc]
    unfold endS
    rw [if_neg (by simp only; omega)]
    simp only [hcl, Bool.false_eq_true, if_false]
    refine Prod.ext ?_ ?_
    · simp only; omega
    · rfl

end Go.Proofs.YtmobbclpfbkkkaaDoor.Pr
