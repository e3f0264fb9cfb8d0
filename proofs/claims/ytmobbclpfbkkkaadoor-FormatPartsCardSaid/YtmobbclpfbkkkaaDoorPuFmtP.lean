/- format: the program's own parts come to what the plain lists say. -/
import Derived.Test.YtmobbclpfbkkkaaDoorPuFmtL
import Derived.Test.YtmobbclpfbkkkaaDoorPuCellN
import Derived.Lib.LazyBuf
import Derived.Test.YtmobbclpfbkkkaaDoorPr4
import Derived.Test.YtmobbclpfbkkkaaDoorPr5
import Derived.Test.YtmobbclpfbkkkaaDoorPr6
import Derived.Test.YtmobbclpfbkkkaaDoorPr7
import Derived.Test.YtmobbclpfbkkkaaDoorPr10
import Derived.Test.YtmobbclpfbkkkaaDoorPr11
import Derived.Test.YtmobbclpfbkkkaaDoorPr12
import Derived.Test.YtmobbclpfbkkkaaDoorPr13
import Derived.Test.YtmobbclpfbkkkaaDoorPr14
namespace Go.Proofs.YtmobbclpfbkkkaaDoor.Pr
open Go Go.RowKit Go.Proofs.YtmobbclpfbkkkaaDoorW.PrintWords Go.Proofs.YtmobbclpfbkkkaaDoorW.PrintLast Go.Proofs.YtmobbclpfbkkkaaDoorW.PrintMore

def hd (r : List UInt8) : Int := match r with | [] => 0 | c :: _ => (c.toNat : Int)
theorem next_ev (l r : List UInt8) (i : Nat) (h : l.drop i = r) (hi : i ≤ l.length) : format_reader_next.f (B l) (i : Int) = some (hd r, B l, (i : Int)) := by
  unfold format_reader_next.f
  cases r with
  | nil =>
    have := drop_nil h
    rw [if_pos (by rw [B_size]; omega)]
    rfl
  | cons c r =>
    obtain ⟨hb, hil, _⟩ := bt_drop h
    rw [if_neg (by rw [B_size]; omega), if_pos (by omega), if_pos (by rw [B_size]; omega), hb]
    rfl
theorem drop_at (l r : List UInt8) (h : r <:+ l) : l.drop (l.length - r.length) = r := by
  obtain ⟨q, rfl⟩ := h
  rw [List.length_append, Nat.add_sub_cancel, List.drop_left]
theorem suf_drop {l r : List UInt8} {i : Nat} (h : l.drop i = r) : r <:+ l := by rw [← h]; exact List.drop_suffix i l
theorem at_of {l r : List UInt8} {i : Nat} (h : l.drop i = r) (hi : i ≤ l.length) : l.length - r.length = i := by
  rw [← h, List.length_drop]; omega
theorem numD_suf (r : List UInt8) : ∀ n, (numD r n).2 <:+ r := by
  induction r with
  | nil => intro n; exact List.suffix_refl _
  | cons c r ih =>
    intro n
    rw [numD]
    split
    · exact (ih _).trans (List.suffix_cons c r)
    · exact List.suffix_refl _
theorem numD_max (r : List UInt8) : ∀ n, n ≤ 1001 → (numD r n).1 ≤ 1001 := by
  induction r with
  | nil => intro n h; exact h
  | cons c r ih =>
    intro n h
    rw [numD]
    split
    · exact ih _ (by omega)
    · exact h
theorem flagsS_suf (r : List UInt8) : ∀ x, (flagsS r x).2 <:+ r := by
  induction r with
  | nil => intro n; exact List.suffix_refl _
  | cons c r ih =>
    intro n
    rw [flagsS]
    repeat' split
    all_goals first | exact (ih _).trans (List.suffix_cons c r) | exact List.suffix_refl _
theorem isDig_iff (c : UInt8) : isDig c = true ↔ 48 ≤ c.toNat ∧ c.toNat ≤ 57 := by
  unfold isDig
  simp
theorem numl_ev (l : List UInt8) (hl : l.length ≤ 100000) (r : List UInt8) : ∀ (i n : Nat), l.drop i = r → i ≤ l.length → n ≤ 1001 →
    Ev (fun k => format_reader_number.l0 k (n : Int) (hd r) (B l) (i : Int)) (((numD r n).1 : Int), B l, ((l.length - (numD r n).2.length : Nat) : Int)) := by
  induction r with
  | nil =>
    intro i n h hi hn
    refine Ev.succ ?_
    simp only [format_reader_number.l0]
    refine Ev.neg (show ¬ (0 : Int) ≥ 48 by omega) (Ev.const ?_)
    rw [numD, at_of h hi]
  | cons c r ih =>
    intro i n h hi hn
    obtain ⟨hb, hil, hr'⟩ := bt_drop h
    have hw1 : wrap64 ((i : Int) + 1) = ((i + 1 : Nat) : Int) := by rw [w64 (by omega) (by omega)]; omega
    refine Ev.succ ?_
    simp only [format_reader_number.l0, hw1]
    have hh : hd (c :: r) = (c.toNat : Int) := rfl
    rw [hh, numD]
    by_cases hd1 : isDig c = true
    · rw [if_pos hd1]
      have h2 := (isDig_iff c).1 hd1
      refine Ev.pos (by omega) (Ev.pos (by omega) (Ev.bindc (next_ev l r (i + 1) hr' (by omega)) ?_))
      have e : mn (wrap64 ((wrap64 (10 * (n : Int))) + (((c.toNat : Int) - 48) % 256))) 1001 = ((min (10 * n + (c.toNat - 48)) 1001 : Nat) : Int) := by
        rw [w64 (n := 10 * (n : Int)) (by omega) (by omega), w64 (by omega) (by omega)]
        unfold mn
        split <;> omega
      simp only [e]
      exact ih (i + 1) _ hr' (by omega) (by omega)
    · rw [if_neg hd1]
      have h2 : ¬ (48 ≤ c.toNat ∧ c.toNat ≤ 57) := fun hh => hd1 ((isDig_iff c).2 hh)
      have fin : ∀ k : Nat, (some ((n : Int), B l, (i : Int)) : Option (Int × ByteArray × Int)) = some ((n : Int), B l, ((l.length - (c :: r).length : Nat) : Int)) := fun _ => by rw [at_of h hi]
      by_cases h48 : (c.toNat : Int) ≥ 48
      · exact Ev.pos h48 (Ev.neg (by omega) (Ev.const (fin 0)))
      · exact Ev.neg h48 (Ev.const (fin 0))
theorem number_ev (l : List UInt8) (hl : l.length ≤ 100000) (r : List UInt8) (i : Nat) (h : l.drop i = r) (hi : i ≤ l.length) :
    Ev (fun k => format_reader_number.f k (B l) (i : Int)) (((numD r 0).1 : Int), B l, ((l.length - (numD r 0).2.length : Nat) : Int)) := by
  unfold format_reader_number.f
  refine Ev.bindc (next_ev l r i h hi) ?_
  exact numl_ev l hl r i 0 h hi (by omega)
theorem strOf_one (c : UInt8) : strOfNums [(c.toNat : Int)] = B [c] := by
  have : [(c.toNat : Int)] = [c].map (fun b => (b.toNat : Int)) := rfl
  rw [this, Lib.Lz.strOfNums_map]
  rfl
def outT (l : List UInt8) (x : Sp × Int × List UInt8) : Bool × Bool × Bool × Bool × Int × Int × Int × Int × ByteArray × Int :=
  (x.1.fs.left, x.1.fs.zero, x.1.fs.plus, x.1.fs.blank, (x.1.width : Int), x.1.prec, (x.1.verb.toNat : Int), x.2.1, B l, ((l.length - x.2.2.length : Nat) : Int))
theorem j1_ev (l : List UInt8) (f : FS) (w : Nat) (p : Int) (r : List UInt8) (i : Nat) (h : l.drop i = r) (hi : i ≤ l.length) (hl : l.length ≤ 100000) :
    Ev (fun k => format_reader_spec.j1 k (B l) (i : Int) f.left f.zero f.plus f.blank (w : Int) p 0)
      (outT l (if 1000 < w ∨ 1000 < p then (⟨f, w, p, 0⟩, 12, r) else verbS f w p r)) := by
  have big : ∀ b : Bool, b = decide (1000 < w ∨ 1000 < p) → Ev (fun k => format_reader_spec.j2 k b (B l) (i : Int) f.left f.zero f.plus f.blank (w : Int) p 0)
      (outT l (if 1000 < w ∨ 1000 < p then (⟨f, w, p, 0⟩, 12, r) else verbS f w p r)) := by
    intro b hb
    refine Ev.succ ?_
    simp only [format_reader_spec.j2]
    by_cases hx : 1000 < w ∨ 1000 < p
    · rw [if_pos hx, hb, decide_eq_true hx]
      refine Ev.pos rfl (Ev.const ?_)
      unfold outT
      simp only [at_of h hi]
      rfl
    · rw [if_neg hx, hb, decide_eq_false hx]
      refine Ev.neg (by simp) (Ev.bindc (next_ev l r i h hi) ?_)
      cases r with
      | nil =>
        refine Ev.pos rfl (Ev.const ?_)
        unfold outT verbS
        simp only [at_of h hi]
        rfl
      | cons c r =>
        obtain ⟨hb, hil, hr'⟩ := bt_drop h
        have hh : hd (c :: r) = (c.toNat : Int) := rfl
        simp only [hh]
        by_cases h0 : (c.toNat : Int) = 0
        · have hv : verbOk c = false := by
            have : c = 0 := by apply UInt8.toNat_inj.1; show c.toNat = 0; omega
            rw [this]; rfl
          refine Ev.pos h0 (Ev.const ?_)
          unfold outT verbS
          simp only [hv, Bool.false_eq_true, if_false, at_of h hi]
        · have hc : strings_Contains.f (⟨#[100, 105, 120, 102, 115, 99, 37]⟩ : ByteArray) (strOfNums ([(c.toNat : Int)])) = some (verbOk c) := by
            unfold strings_Contains.f
            rw [strOf_one]
            exact if_pos rfl
          refine Ev.neg h0 (Ev.bindc hc ?_)
          have hw1 : wrap64 ((i : Int) + 1) = ((i + 1 : Nat) : Int) := by rw [w64 (by omega) (by omega)]; omega
          by_cases hv : verbOk c = true
          · refine Ev.pos hv (Ev.const ?_)
            unfold outT verbS
            simp only [hv, if_true, hw1, at_of hr' (show i + 1 ≤ l.length by omega)]
          · refine Ev.neg hv (Ev.const ?_)
            unfold outT verbS
            simp only [hv, Bool.false_eq_true, if_false, at_of h hi]
  refine Ev.succ ?_
  simp only [format_reader_spec.j1]
  by_cases hw : (w : Int) > 1000
  · refine Ev.pos hw (big true ?_)
    rw [decide_eq_true (Or.inl (by omega))]
  · refine Ev.neg hw (big (decide (p > 1000)) ?_)
    by_cases hp : p > 1000
    · rw [decide_eq_true hp, decide_eq_true (Or.inr (by omega))]
    · rw [decide_eq_false hp, decide_eq_false (by omega)]
theorem specl_ev (l : List UInt8) (hl : l.length ≤ 100000) (r : List UInt8) : ∀ (i : Nat) (f : FS), l.drop i = r → i ≤ l.length →
    Ev (fun k => format_reader_spec.l0 k (B l) (i : Int) f.left f.zero f.plus f.blank 0 (-1) 0) (outT l (specT (flagsS r f).1 (flagsS r f).2)) := by
  have rest : ∀ (r : List UInt8) (i : Nat) (f : FS), l.drop i = r → i ≤ l.length →
      Ev (fun k => (format_reader_number.f k (B l) (i : Int)).bind fun bt165 => ((format_reader_next.f bt165.2.1 bt165.2.2).bind fun bt168 => (if bt168.1 = 46 then ((format_reader_number.f k bt168.2.1 (wrap64 (bt168.2.2 + 1))).bind fun bt171 => (format_reader_spec.j1 k bt171.2.1 bt171.2.2 f.left f.zero f.plus f.blank bt165.1 bt171.1 0)) else (format_reader_spec.j1 k bt168.2.1 bt168.2.2 f.left f.zero f.plus f.blank bt165.1 (-1) 0)))) (outT l (specT f r)) := by
    intro r i f h hi
    have s1 := (numD_suf r 0).trans (suf_drop h)
    have d1 := drop_at l _ s1
    refine Ev.bind' (number_ev l hl r i h hi) (Ev.bindc (next_ev l _ _ d1 (by omega)) ?_)
    unfold specT
    simp only
    generalize hm : (numD r 0).2 = m at *
    cases m with
    | nil =>
      refine Ev.neg (by unfold hd; simp) ?_
      exact j1_ev l f _ (-1) [] _ d1 (by omega) hl
    | cons c m =>
      have hh : hd (c :: m) = (c.toNat : Int) := rfl
      simp only [hh, precS]
      by_cases h46 : c.toNat = 46
      · simp only [if_pos h46]
        obtain ⟨hb, hil, hr'⟩ := bt_drop d1
        have hw1 : wrap64 ((l.length - (c :: m).length : Nat) + 1 : Int) = ((l.length - (c :: m).length + 1 : Nat) : Int) := by rw [w64 (by omega) (by omega)]; omega
        have s2 := (numD_suf m 0).trans (suf_drop hr')
        have d2 := drop_at l _ s2
        refine Ev.pos (by omega) ?_
        rw [hw1]
        refine Ev.bind' (number_ev l hl m _ hr' (by omega)) ?_
        exact j1_ev l f _ _ _ _ d2 (by omega) hl
      · simp only [if_neg h46]
        refine Ev.neg (by omega) ?_
        exact j1_ev l f _ (-1) (c :: m) _ d1 (by omega) hl
  induction r with
  | nil =>
    intro i f h hi
    refine Ev.succ ?_
    simp only [format_reader_spec.l0]
    refine Ev.bindc (next_ev l [] i h hi) ?_
    exact Ev.neg (by unfold hd; simp) (Ev.neg (by unfold hd; simp) (Ev.neg (by unfold hd; simp) (Ev.neg (by unfold hd; simp) (rest [] i f h hi))))
  | cons c r ih =>
    intro i f h hi
    obtain ⟨hb, hil, hr'⟩ := bt_drop h
    have hw1 : wrap64 ((i : Int) + 1) = ((i + 1 : Nat) : Int) := by rw [w64 (by omega) (by omega)]; omega
    refine Ev.succ ?_
    simp only [format_reader_spec.l0]
    refine Ev.bindc (next_ev l (c :: r) i h hi) ?_
    have hh : hd (c :: r) = (c.toNat : Int) := rfl
    simp only [hh, hw1, flagsS]
    by_cases c1 : c.toNat = 45
    · simp only [if_pos c1]
      exact Ev.pos (by omega) (ih (i + 1) { f with left := true } hr' (by omega))
    · refine Ev.neg (by omega) ?_
      simp only [if_neg c1]
      by_cases c2 : c.toNat = 48
      · simp only [if_pos c2]
        exact Ev.pos (by omega) (ih (i + 1) { f with zero := true } hr' (by omega))
      · refine Ev.neg (by omega) ?_
        simp only [if_neg c2]
        by_cases c3 : c.toNat = 43
        · simp only [if_pos c3]
          exact Ev.pos (by omega) (ih (i + 1) { f with plus := true } hr' (by omega))
        · refine Ev.neg (by omega) ?_
          simp only [if_neg c3]
          by_cases c4 : c.toNat = 32
          · simp only [if_pos c4]
            exact Ev.pos (by omega) (ih (i + 1) { f with blank := true } hr' (by omega))
          · refine Ev.neg (by omega) ?_
            simp only [if_neg c4]
            exact rest (c :: r) i f h hi
theorem spec_ev (l : List UInt8) (hl : l.length ≤ 100000) (r : List UInt8) (i : Nat) (h : l.drop i = r) (hi : i ≤ l.length) :
    Ev (fun k => format_reader_spec.f k (B l) (i : Int)) (outT l (specS r)) := specl_ev l hl r i FS.none h hi

/-! values -/
theorem repeatL_one (c : UInt8) (n : Nat) : Lib.repeatL [c] n = List.replicate n c := by
  induction n with
  | zero => rfl
  | succ n ih => rw [Lib.repeatL, ih, List.replicate_succ]; rfl
theorem repeat_some (c : UInt8) (n : Int) (h0 : 0 ≤ n) (h1 : n ≤ 1000000) : strings_Repeat.f (⟨#[c]⟩ : ByteArray) n = some (B (List.replicate n.toNat c)) := by
  unfold strings_Repeat.f
  rw [if_pos h0, if_pos h1, if_pos (by show (1 : Nat) ≤ 1000000; omega)]
  show some (B (Lib.repeatL [c] n.toNat)) = _
  rw [repeatL_one]
theorem mx0 (n : Int) : mx n 0 = ((n.toNat : Nat) : Int) := by unfold mx; split <;> omega
theorem sign_ev (f : FS) (a4 a5 a6 : Int) (b : Bool) : format_spec_sign.f f.left f.zero f.plus f.blank a4 a5 a6 b = some (B (signS f b)) := by
  unfold format_spec_sign.f signS
  cases b <;> cases f.plus <;> cases f.blank <;> rfl
theorem pad_ev (f : FS) (w : Nat) (a5 a6 : Int) (s b : List UInt8) (z : Bool) (hw : w ≤ 1000) (hs : s.length ≤ 100000) (hb : b.length ≤ 100000) :
    Ev (fun k => format_spec_pad.f k f.left f.zero f.plus f.blank (w : Int) a5 a6 (B s) (B b) z) (B (padS f w s b z)) := by
  have hn : mx (wrap64 ((wrap64 ((w : Int) - ((B s).size : Int))) - ((B b).size : Int))) 0 = ((w - s.length - b.length : Nat) : Int) := by
    rw [B_size, B_size, w64 (n := (w : Int) - s.length) (by omega) (by omega), w64 (by omega) (by omega), mx0]
    omega
  have hr : ∀ c : UInt8, strings_Repeat.f (⟨#[c]⟩ : ByteArray) ((w - s.length - b.length : Nat) : Int) = some (B (List.replicate (w - s.length - b.length) c)) := fun c => by
    rw [repeat_some c _ (by omega) (by omega), Int.toNat_natCast]
  have hl : (List.replicate (w - s.length - b.length) (0 : UInt8)).length ≤ 1000 := by rw [List.length_replicate]; omega
  have hj : ∀ z2 : Bool, Ev (fun k => format_spec_pad.j0 k (B s) (B b) ((w - s.length - b.length : Nat) : Int) z2)
      (B (if z2 = true then s ++ List.replicate (w - s.length - b.length) 48 ++ b else List.replicate (w - s.length - b.length) 32 ++ s ++ b)) := by
    intro z2
    refine Ev.succ ?_
    simp only [format_spec_pad.j0]
    cases z2 with
    | true =>
      refine Ev.pos rfl (Ev.bindc (hr 48) ?_)
      refine Ev.pos (by simp only [B_size, List.length_replicate]; omega) ?_
      rw [B_append]
      refine Ev.pos (by simp only [B_size, List.length_append, List.length_replicate]; omega) (Ev.const ?_)
      rw [B_append]; rfl
    | false =>
      refine Ev.neg (by simp) (Ev.bindc (hr 32) ?_)
      refine Ev.pos (by simp only [B_size, List.length_replicate]; omega) ?_
      rw [B_append]
      refine Ev.pos (by simp only [B_size, List.length_append, List.length_replicate]; omega) (Ev.const ?_)
      rw [B_append]; rfl
  unfold format_spec_pad.f padS
  rw [hn]
  by_cases h1 : f.left = true
  · rw [if_pos h1]
    refine Ev.pos h1 (Ev.pos (by simp only [B_size]; omega) (Ev.bindc (hr 32) ?_))
    rw [B_append]
    refine Ev.pos (by simp only [B_size, List.length_append, List.length_replicate]; omega) (Ev.const ?_)
    rw [B_append]
  · rw [if_neg h1]
    refine Ev.neg h1 ?_
    cases z with
    | true =>
      refine Ev.pos rfl ?_
      rw [Bool.true_and]
      exact hj f.zero
    | false =>
      refine Ev.neg (by simp) ?_
      exact hj false
theorem abs_mx (n : Int) (h : -9223372036854775807 ≤ n) (h' : n ≤ 9223372036854775807) : mx n (wrap64 (-n)) = (n.natAbs : Int) := by
  rw [w64 (by omega) (by omega)]
  unfold mx
  split <;> omega
theorem fmt_dec (n : Nat) (h : n < 9223372036854775808) : strconv_FormatInt.f (n : Int) 10 = some (B (Lib.decDigits n)) := by
  unfold strconv_FormatInt.f
  rw [if_pos (by omega), if_pos (by omega), if_pos rfl, Int.toNat_natCast]
  rfl
theorem fmt_hex (n : Nat) (h : n < 9223372036854775808) : strconv_FormatInt.f (n : Int) 16 = some (B (hexS n)) := by
  unfold strconv_FormatInt.f
  rw [if_pos (by omega), if_pos (by omega), if_neg (by omega), if_pos rfl, Int.toNat_natCast]
  rfl
theorem tdiv_abs (v : Int) : (Int.tdiv v 1000000).natAbs = v.natAbs / 1000000 := by
  rw [Int.natAbs_tdiv]; rfl
theorem tdiv_neg (v : Int) : (decide (Int.tdiv v 1000000 < 0)) = decide (v ≤ -1000000) := by
  rw [Bool.eq_iff_iff, decide_eq_true_eq, decide_eq_true_eq]
  by_cases h : v < 0
  · have h1 : Int.tdiv v 1000000 = - (Int.tdiv (-v) 1000000) := by rw [Int.neg_tdiv, Int.neg_neg]
    have h2 := Int.tdiv_eq_ediv_of_nonneg (b := 1000000) (show 0 ≤ -v by omega)
    omega
  · have h2 := Int.tdiv_eq_ediv_of_nonneg (b := 1000000) (show 0 ≤ v by omega)
    have h3 := Int.ediv_nonneg (show 0 ≤ v by omega) (show (0 : Int) ≤ 1000000 by omega)
    omega
theorem whole_ev (x : Sp) (v : Int) (base : Int) (dg : List UInt8) (hv : fitI v) (hw : x.width ≤ 1000) (hp : x.prec ≤ 1000) (hp0 : -1 ≤ x.prec) (a6 : Int) (hd : dg.length ≤ 20)
    (hf : strconv_FormatInt.f ((v.natAbs / 1000000 : Nat) : Int) base = some (B dg)) :
    Ev (fun k => format_spec_whole.f k x.fs.left x.fs.zero x.fs.plus x.fs.blank (x.width : Int) x.prec a6 (Int.tdiv v 1000000) base) (B (wholeS x v dg)) := by
  have hv' := hv
  unfold fitI at hv'
  have ha := tdiv_abs v
  have hm : mx (Int.tdiv v 1000000) (wrap64 (-(Int.tdiv v 1000000))) = ((v.natAbs / 1000000 : Nat) : Int) := by
    rw [abs_mx _ (by omega) (by omega), ha]
  have hz : (Int.tdiv v 1000000 == 0) = decide (v.natAbs / 1000000 = 0) := by
    rw [Bool.eq_iff_iff, beq_iff_eq, decide_eq_true_eq]; omega
  have hs := sign_ev x.fs (x.width : Int) x.prec a6 (decide (Int.tdiv v 1000000 < 0))
  rw [tdiv_neg] at hs
  have hj : ∀ b : Bool, b = decide (x.prec = 0 ∧ v.natAbs / 1000000 = 0) → Ev (fun k => format_spec_whole.j0 k (Int.tdiv v 1000000) (B dg) b x.fs.left x.fs.zero x.fs.plus x.fs.blank (x.width : Int) x.prec a6) (B (wholeS x v dg)) := by
    intro b hb
    have pad := fun (s : List UInt8) (hsl : s.length ≤ 20) => pad_ev x.fs x.width x.prec a6 (signS x.fs (decide (v ≤ -1000000))) (List.replicate (x.prec - s.length).toNat 48 ++ s) (decide (x.prec < 0)) hw (by have := signS_le x.fs (decide (v ≤ -1000000)); omega)
      (by rw [List.length_append, List.length_replicate]; omega)
    unfold wholeS
    refine Ev.succ ?_
    simp only [format_spec_whole.j0]
    by_cases hx : x.prec = 0 ∧ v.natAbs / 1000000 = 0
    · rw [hb, decide_eq_true hx, if_pos hx]
      have e : mx (wrap64 (x.prec)) 0 = (((x.prec - ([] : List UInt8).length).toNat : Nat) : Int) := by rw [w64 (by omega) (by omega), mx0]; simp
      refine Ev.pos rfl ?_
      rw [e]
      refine Ev.bindc (repeat_some 48 _ (by omega) (by simp; omega)) ?_
      rw [Int.toNat_natCast]
      refine Ev.pos (by rw [B_size, List.length_replicate]; simp; omega) ?_
      rw [tdiv_neg]
      refine Ev.bindc hs ?_
      rw [show (⟨#[]⟩ : ByteArray) = B [] from rfl, B_append]
      exact Ev.bind' (f := fun _ t => some t) (pad [] (by simp)) (Ev.now _)
    · rw [hb, decide_eq_false hx, if_neg hx]
      have e : mx (wrap64 (x.prec - ((B dg).size : Int))) 0 = (((x.prec - dg.length).toNat : Nat) : Int) := by rw [B_size, w64 (by omega) (by omega), mx0]
      refine Ev.neg (by simp) ?_
      rw [e]
      refine Ev.bindc (repeat_some 48 _ (by omega) (by omega)) ?_
      rw [Int.toNat_natCast]
      refine Ev.pos (by rw [B_size, B_size, List.length_replicate]; omega) ?_
      rw [tdiv_neg]
      refine Ev.bindc hs ?_
      rw [B_append]
      exact Ev.bind' (f := fun _ t => some t) (pad dg hd) (Ev.now _)
  unfold format_spec_whole.f
  rw [hm]
  refine Ev.bindc hf ?_
  by_cases h0 : x.prec = 0
  · refine Ev.pos h0 ?_
    rw [hz]
    refine hj _ ?_
    simp [h0]
  · refine Ev.neg h0 (hj false ?_)
    rw [decide_eq_false (fun h => h0 h.1)]
theorem places_ev (x : Sp) (v : Int) (hv : fitI v) (hw : x.width ≤ 1000) (hp : x.prec ≤ 1000) (hp0 : -1 ≤ x.prec) (a6 : Int) :
    Ev (fun k => format_spec_places.f k x.fs.left x.fs.zero x.fs.plus x.fs.blank (x.width : Int) x.prec a6 v) (B (placesS x v)) := by
  have hv' := hv
  unfold fitI at hv'
  have hm : mx v (wrap64 (-v)) = (v.natAbs : Int) := abs_mx v (by omega) (by omega)
  have hs := sign_ev x.fs (x.width : Int) x.prec a6 (decide (v < 0))
  have hsl := signS_le x.fs (decide (v < 0))
  have hq : wrap64 (Int.tdiv (v.natAbs : Int) 1000000) = ((v.natAbs / 1000000 : Nat) : Int) := by
    rw [Int.tdiv_eq_ediv_of_nonneg (by omega), w64 (by omega) (by omega)]; rfl
  have hr : wrap64 (1000000 + Int.tmod (v.natAbs : Int) 1000000) = ((1000000 + v.natAbs % 1000000 : Nat) : Int) := by
    rw [Int.tmod_eq_emod_of_nonneg (by omega), w64 (by omega) (by omega)]; omega
  have hl1 := dec_le (v.natAbs / 1000000) (by omega)
  have h7 := dec_seven (v.natAbs % 1000000) (Nat.mod_lt _ (by omega))
  have hj : ∀ p : Nat, p ≤ 1000 → Ev (fun k => format_spec_places.j0 k v (v.natAbs : Int) (p : Int) x.fs.left x.fs.zero x.fs.plus x.fs.blank (x.width : Int) x.prec a6)
      (B (padS x.fs x.width (signS x.fs (decide (v < 0))) (Lib.decDigits (v.natAbs / 1000000) ++ (if p = 0 then [] else [46] ++ ((Lib.decDigits (1000000 + v.natAbs % 1000000)).drop 1 ++ List.replicate (p - 6) 48).take p)) true)) := by
    intro p hp
    refine Ev.succ ?_
    simp only [format_spec_places.j0, hq, hr]
    refine Ev.bindc (fmt_dec _ (by omega)) ?_
    by_cases h0 : p = 0
    · subst h0
      rw [if_pos rfl, List.append_nil]
      refine Ev.neg (by omega) (Ev.bindc hs ?_)
      exact Ev.bind' (f := fun _ t => some t) (pad_ev x.fs x.width x.prec a6 _ _ true hw (by omega) (by omega)) (Ev.now _)
    · rw [if_neg h0]
      refine Ev.pos (by omega) (Ev.bindc (fmt_dec _ (by omega)) ?_)
      have e6 : mx (wrap64 ((p : Int) - 6)) 0 = ((p - 6 : Nat) : Int) := by rw [w64 (by omega) (by omega), mx0]; omega
      refine Ev.pos (by rw [B_size, h7]; omega) ?_
      rw [e6]
      refine Ev.bindc (repeat_some 48 _ (by omega) (by omega)) ?_
      rw [Int.toNat_natCast, B_extract, B_size, List.take_of_length_le (by rw [List.length_drop]; exact Nat.le_refl _)]
      have hD : ((Lib.decDigits (1000000 + v.natAbs % 1000000)).drop 1).length = 6 := by rw [List.length_drop, h7]
      generalize (Lib.decDigits (1000000 + v.natAbs % 1000000)).drop 1 = D at *
      refine Ev.pos (by simp only [B_size, List.length_replicate]; omega) ?_
      rw [B_append]
      refine Ev.pos (by omega) (Ev.pos (by rw [B_size, List.length_append, List.length_replicate]; omega) ?_)
      rw [B_extract, List.drop_zero, Nat.sub_zero, Int.toNat_natCast]
      have hT : ((D ++ List.replicate (p - 6) 48).take p).length ≤ 1000 := by rw [List.length_take]; omega
      generalize (D ++ List.replicate (p - 6) 48).take p = T at *
      rw [show (⟨#[46]⟩ : ByteArray) = B [46] from rfl]
      refine Ev.pos (by rw [B_size]; omega) ?_
      rw [B_append]
      refine Ev.pos (by rw [B_size, B_size, List.length_append, List.length_singleton]; omega) ?_
      rw [B_append]
      refine Ev.bindc hs ?_
      exact Ev.bind' (f := fun _ t => some t) (pad_ev x.fs x.width x.prec a6 _ _ true hw (by omega) (by simp only [List.length_append, List.length_singleton]; omega)) (Ev.now _)
  unfold format_spec_places.f placesS
  rw [hm]
  by_cases h : x.prec < 0
  · rw [if_pos h]
    exact Ev.pos h (hj 6 (by omega))
  · rw [if_neg h]
    refine Ev.neg h ?_
    have := hj x.prec.toNat (by omega)
    rw [show ((x.prec.toNat : Nat) : Int) = x.prec by omega] at this
    exact this
theorem whole_some (v : Int) (hv : fitI v) : num_Num_Whole.f v = some (Int.tdiv v 1000000) := by
  unfold fitI at hv
  unfold num_Num_Whole.f
  have ha := tdiv_abs v
  rw [w64 (by omega) (by omega)]
theorem take_min (l : List UInt8) (n : Nat) : l.take (min l.length n) = l.take n := by
  rcases Nat.le_total n l.length with h | h
  · rw [Nat.min_eq_right h]
  · rw [Nat.min_eq_left h, List.take_of_length_le (Nat.le_refl _), List.take_of_length_le h]
theorem mn_nat (a b : Nat) : mn (a : Int) (b : Int) = ((min a b : Nat) : Int) := by unfold mn; split <;> omega
theorem one_ev (x : Sp) (kd n : Int) (l : List UInt8) (hw : x.width ≤ 1000) (hp : x.prec ≤ 1000) (hp0 : -1 ≤ x.prec) (hv : fitI (numS kd n l)) (hl : l.length ≤ 100000) (hs : (strS kd n l).length ≤ 1000) :
    Ev (fun k => format_spec_one.f k x.fs.left x.fs.zero x.fs.plus x.fs.blank (x.width : Int) x.prec (x.verb.toNat : Int) kd n (B l)) (B (oneS x kd n l)) := by
  have hfit : kd = 1 → fitI n := by
    intro h
    unfold numS at hv
    rw [if_neg (by omega)] at hv
    exact hv
  have hv' := hv
  unfold fitI at hv'
  have hdl := dec_le ((numS kd n l).natAbs / 1000000) (by omega)
  have hhl := hexS_len ((numS kd n l).natAbs / 1000000) 20 (by omega) (by omega)
  have vd : ∀ (c : UInt8) (k : Nat), k < 256 → (c = UInt8.ofNat k ↔ (c.toNat : Int) = (k : Int)) := by
    intro c k hk
    have e : (UInt8.ofNat k).toNat = k := by rw [UInt8.toNat_ofNat']; omega
    constructor
    · rintro rfl; rw [e]
    · intro h; apply UInt8.toNat_inj.1; rw [e]; omega
  have v100 : x.verb = 100 ↔ (x.verb.toNat : Int) = 100 := vd x.verb 100 (by omega)
  have v105 : x.verb = 105 ↔ (x.verb.toNat : Int) = 105 := vd x.verb 105 (by omega)
  have v120 : x.verb = 120 ↔ (x.verb.toNat : Int) = 120 := vd x.verb 120 (by omega)
  have v102 : x.verb = 102 ↔ (x.verb.toNat : Int) = 102 := vd x.verb 102 (by omega)
  have v99 : x.verb = 99 ↔ (x.verb.toNat : Int) = 99 := vd x.verb 99 (by omega)
  have pad0 : ∀ b : List UInt8, b.length ≤ 1000 → Ev (fun k => (format_spec_pad.f k x.fs.left x.fs.zero x.fs.plus x.fs.blank (x.width : Int) x.prec (x.verb.toNat : Int) (⟨#[]⟩ : ByteArray) (B b) false).bind fun t => some t) (B (padS x.fs x.width [] b false)) := fun b hb =>
    Ev.bind' (f := fun _ t => some t) (pad_ev x.fs x.width x.prec (x.verb.toNat : Int) [] b false hw (by simp) (by omega)) (Ev.now _)
  have hj : ∀ b : Bool, b = decide (x.verb = 100 ∨ x.verb = 105) → Ev (fun k => format_spec_one.j0 k (x.verb.toNat : Int) b x.fs.left x.fs.zero x.fs.plus x.fs.blank (x.width : Int) x.prec (x.verb.toNat : Int) kd n (B l)) (B (oneS x kd n l)) := by
    intro b hb
    refine Ev.succ ?_
    simp only [format_spec_one.j0]
    unfold oneS
    simp only
    by_cases h1 : x.verb = 100 ∨ x.verb = 105
    · rw [hb, decide_eq_true h1, if_pos h1]
      refine Ev.pos rfl (Ev.bind' (num_ev kd n l (by omega)) (Ev.bindc (whole_some _ hv) ?_))
      exact Ev.bind' (f := fun _ t => some t) (whole_ev x _ 10 _ hv hw hp hp0 _ hdl (fmt_dec _ (by omega))) (Ev.now _)
    · rw [hb, decide_eq_false h1, if_neg h1]
      refine Ev.neg (by simp) ?_
      by_cases h2 : x.verb = 120
      · rw [if_pos h2]
        refine Ev.pos (v120.1 h2) (Ev.bind' (num_ev kd n l (by omega)) (Ev.bindc (whole_some _ hv) ?_))
        exact Ev.bind' (f := fun _ t => some t) (whole_ev x _ 16 _ hv hw hp hp0 _ hhl (fmt_hex _ (by omega))) (Ev.now _)
      · rw [if_neg h2]
        refine Ev.neg (fun h => h2 (v120.2 h)) ?_
        by_cases h3 : x.verb = 102
        · rw [if_pos h3]
          refine Ev.pos (v102.1 h3) (Ev.bind' (num_ev kd n l (by omega)) ?_)
          exact Ev.bind' (f := fun _ t => some t) (places_ev x _ hv hw hp hp0 _) (Ev.now _)
        · rw [if_neg h3]
          refine Ev.neg (fun h => h3 (v102.2 h)) ?_
          by_cases h4 : x.verb = 99
          · rw [if_pos h4]
            refine Ev.pos (v99.1 h4) (Ev.bind' (str_ev kd n l hfit) ?_)
            by_cases hk : kd = 1
            · rw [if_pos hk]
              refine Ev.pos hk (Ev.bindc (whole_some n (hfit hk)) (Ev.bindc rfl ?_))
              have e : strOfNums [Int.tdiv n 1000000 % 256] = B [UInt8.ofNat (Int.tdiv n 1000000 % 256).toNat] := by
                rw [← strOf_one]
                congr 2
                rw [UInt8.toNat_ofNat']
                omega
              rw [e, B_size, List.length_singleton, show mn ((1 : Nat) : Int) 1 = 1 by unfold mn; simp]
              refine Ev.pos (by omega) (Ev.pos (by omega) ?_)
              rw [B_extract, List.drop_zero]
              exact pad0 _ (by simp)
            · rw [if_neg hk]
              refine Ev.neg hk ?_
              rw [B_size, show (1 : Int) = ((1 : Nat) : Int) from rfl, mn_nat, Int.toNat_natCast]
              refine Ev.pos (by omega) (Ev.pos (by omega) ?_)
              rw [B_extract, List.drop_zero, Nat.sub_zero]
              have : (strS kd n l).take (min (strS kd n l).length 1) = (strS kd n l).take 1 := take_min _ _
              rw [this]
              refine pad0 _ ?_
              rw [List.length_take]; omega
          · rw [if_neg h4]
            refine Ev.neg (fun h => h4 (v99.2 h)) (Ev.bind' (str_ev kd n l hfit) ?_)
            by_cases h5 : x.prec ≥ 0
            · rw [if_pos (by omega)]
              obtain ⟨p, hp'⟩ := Int.eq_ofNat_of_zero_le h5
              refine Ev.pos h5 ?_
              rw [hp', B_size, mn_nat, Int.toNat_natCast]
              refine Ev.pos (by omega) (Ev.pos (by omega) ?_)
              rw [B_extract, List.drop_zero, Nat.sub_zero]
              have : (strS kd n l).take (min (strS kd n l).length p) = (strS kd n l).take p := take_min _ _
              rw [this, ← hp', show x.prec.toNat = p by omega]
              refine pad0 _ ?_
              rw [List.length_take]; omega
            · rw [if_neg (by omega)]
              exact Ev.neg h5 (pad0 _ hs)
  unfold format_spec_one.f
  by_cases h : (x.verb.toNat : Int) = 100
  · refine Ev.pos h (hj _ ?_)
    rw [decide_eq_true (Or.inl (v100.2 h))]
    simpa using h
  · refine Ev.neg h (hj _ ?_)
    by_cases h' : (x.verb.toNat : Int) = 105
    · rw [decide_eq_true (Or.inr (v105.2 h'))]; simpa using h'
    · rw [decide_eq_false (by rintro (e | e); exact h (v100.1 e); exact h' (v105.1 e))]; simpa using h'

end Go.Proofs.YtmobbclpfbkkkaaDoor.Pr
