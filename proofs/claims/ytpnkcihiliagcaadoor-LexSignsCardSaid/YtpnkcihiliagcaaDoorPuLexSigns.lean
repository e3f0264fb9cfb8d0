/- Signs with blanks between are read as they stand: the pure statement. -/
import Derived.Test.YtpnkcihiliagcaaDoorPuLxN
import Derived.Test.YtpnkcihiliagcaaDoorPr14
namespace Go.Proofs.YtpnkcihiliagcaaDoor.Pr
open Go Go.RowKit Go.Proofs.YtpnkcihiliagcaaDoorW.PrintWords Go.Proofs.YtpnkcihiliagcaaDoorW.PrintLast Go.Proofs.YtpnkcihiliagcaaDoorW.PrintMore
set_option linter.unusedVariables false
set_option linter.unusedSimpArgs false

/-- a sign of one byte or two that is read as itself where a blank follows -/
def okSign (g : ByteArray) : Bool :=
  (g.size == 1 || g.size == 2) && (!(bt g 0 == 32 || (bt g 0 == 9 || bt g 0 == 13))) && (!(bt g 0 == 35)) && (!(bt g 0 == 92)) && (!(bt g 0 == 10)) && (!(dgt (bt g 0))) && (!(bt g 0 == 46)) && (!(ltr (bt g 0))) && (!(bt g 0 == 34)) && (!(bt g 0 == 47))
    && (if g.size == 2 then twoB ⟨#[(bt g 0).toNat.toUInt8, (bt g 1).toNat.toUInt8]⟩ else (!(twoB ⟨#[(bt g 0).toNat.toUInt8, 32]⟩)) && decide (0 ≤ oneI (bt g 0)))
theorem next_sign (u g v : ByteArray) (ts : List Tok) (hg : okSign g = true) (hv : 0 < v.size) (h32 : bt v 0 = 32) : nextE (u ++ (g ++ v)) u.size ts = (0, (u.size : Int) + g.size, ts ++ [⟨8, g, (u.size : Int)⟩]) := by
  simp only [okSign, Bool.and_eq_true, Bool.or_eq_true, beq_iff_eq, Bool.not_eq_true'] at hg
  obtain ⟨⟨⟨⟨⟨⟨⟨⟨⟨⟨hs, a1⟩, a2⟩, a3⟩, a4⟩, a5⟩, a6⟩, a7⟩, a8⟩, a9⟩, hz⟩ := hg
  have hs1 : (u ++ (g ++ v)).size = u.size + (g.size + v.size) := by rw [ByteArray.size_append, ByteArray.size_append]
  have b0 : bt (u ++ (g ++ v)) (u.size : Int) = bt g 0 := by
    have := bt_right u (g ++ v) 0 (by omega)
    rw [Int.add_zero] at this
    rw [this, bt_left g v 0 (by omega) (by omega)]
  have b1 : bt (u ++ (g ++ v)) ((u.size : Int) + 1) = if g.size = 2 then bt g 1 else 32 := by
    rw [bt_right u (g ++ v) 1 (by omega)]
    rcases hs with h | h
    · have := bt_right g v 0 (by omega)
      rw [h] at this
      rw [if_neg (by omega), ← h32, ← this]; rfl
    · rw [if_pos h, bt_left g v 1 (by omega) (by omega)]
  have hsign : signE (u ++ (g ++ v)) u.size ts = (0, (u.size : Int) + g.size, ts ++ [⟨8, g, (u.size : Int)⟩]) := by
    have hp2 : (u.size : Int) + 2 ≤ ((u ++ (g ++ v)).size : Int) := by omega
    unfold signE
    rw [decide_eq_true hp2, Bool.true_and, cut_two _ _ (by omega) hp2, b0, b1]
    have hcut : ∀ n : Nat, n = g.size → cut (u ++ (g ++ v)) u.size ((u.size : Int) + n) = g := by
      rintro n rfl
      unfold cut
      apply ByteArray.ext
      have e1 : (u.size : Int).toNat = u.size := by omega
      have e2 : ((u.size : Int) + g.size).toNat = u.size + g.size := by omega
      rw [e1, e2]
      have d1 : u.data.size = u.size := rfl
      have d2 : g.data.size = g.size := rfl
      have x1 : u.data.extract u.size (u.size + g.size) = #[] := by rw [← d1]; simp
      have x2 : g.data.extract 0 g.size = g.data := by rw [← d2]; simp
      simp [ByteArray.data_extract, ByteArray.data_append, Array.extract_append, d1, d2, x1, x2]
    rcases hs with h | h
    · rw [h] at hz hcut ⊢
      rw [if_neg (by decide)] at hz
      simp only [Bool.and_eq_true, Bool.not_eq_true', decide_eq_true_eq] at hz
      rw [if_neg (show ¬ (1 : Nat) = 2 by decide), show ((32 : Int).toNat.toUInt8) = 32 from rfl, hz.1, if_neg (by decide), decide_eq_true hz.2, if_pos rfl]
      have := hcut 1 rfl
      rw [show (u.size : Int) + ((1 : Nat) : Int) = u.size + 1 from rfl] at this ⊢
      rw [this]
    · rw [h] at hz hcut ⊢
      rw [if_pos rfl] at hz
      rw [if_pos rfl, hz, if_pos rfl]
      have := hcut 2 rfl
      rw [show (u.size : Int) + ((2 : Nat) : Int) = u.size + 2 from rfl] at this ⊢
      rw [cut_two _ _ (by omega) hp2, b0, b1, if_pos h] at this
      rw [this]
  unfold nextE
  rw [b0, a1, a2, a3, a4, a5, a6, a7, a8, a9]
  simp only [Bool.false_and, Bool.or_self, Bool.false_or, Bool.or_false, Bool.false_eq_true, if_false]
  exact hsign
/-- the signs told so far: with whatever behind, the lexer comes to the text's end with them -/
def Told (x : ByteArray) (l : List Tok) : Prop := ∃ m : Nat, m ≤ x.size ∧ ∀ (t : ByteArray) (k : Nat), lexE (x ++ t) (k + m) 0 [] = lexE (x ++ t) k x.size l
theorem told_nil : Told ⟨#[]⟩ [] := ⟨0, by simp, fun t k => rfl⟩
theorem told_sign (x g : ByteArray) (l : List Tok) (h : Told x l) (hg : okSign g = true) (hs : 1 ≤ g.size) : Told (x ++ (g ++ ⟨#[32]⟩)) (l ++ [⟨8, g, (x.size : Int)⟩]) := by
  obtain ⟨m, hm, ht⟩ := h
  have hz1 : (⟨#[32]⟩ : ByteArray).size = 1 := rfl
  refine ⟨m + 2, by rw [ByteArray.size_append, ByteArray.size_append, hz1]; omega, fun t k => ?_⟩
  have e : x ++ (g ++ (⟨#[32]⟩ : ByteArray)) ++ t = x ++ (g ++ ((⟨#[32]⟩ : ByteArray) ++ t)) := by rw [ByteArray.append_assoc, ByteArray.append_assoc]
  have hs1 : (x ++ (g ++ ((⟨#[32]⟩ : ByteArray) ++ t))).size = x.size + (g.size + (1 + t.size)) := by rw [ByteArray.size_append, ByteArray.size_append, ByteArray.size_append, hz1]
  have hb32 : bt ((⟨#[32]⟩ : ByteArray) ++ t) 0 = 32 := by rw [bt_left _ _ _ (by omega) (by rw [hz1]; omega)]; rfl
  rw [e, show k + (m + 2) = (k + 2) + m by omega, ht, lexE, if_pos (by omega), next_sign x g _ l hg (by rw [ByteArray.size_append, hz1]; omega) hb32]
  simp only [if_true]
  have hb : bt (x ++ (g ++ ((⟨#[32]⟩ : ByteArray) ++ t))) ((x.size : Int) + g.size) = 32 := by
    rw [bt_right x _ _ (by omega)]
    have := bt_right g ((⟨#[32]⟩ : ByteArray) ++ t) 0 (by omega)
    rw [Int.add_zero] at this
    rw [this, hb32]
  rw [lexE, if_pos (by omega), show nextE (x ++ (g ++ ((⟨#[32]⟩ : ByteArray) ++ t))) ((x.size : Int) + g.size) (l ++ [⟨8, g, (x.size : Int)⟩]) = (0, (x.size : Int) + g.size + 1, l ++ [⟨8, g, (x.size : Int)⟩]) by simp [nextE, hb]]
  simp only [if_true]
  rw [ByteArray.size_append, ByteArray.size_append, hz1]
  congr 1
theorem told_lex (x : ByteArray) (l : List Tok) (h : Told x l) (hs : x.size ≤ 4000) : lex_Lex.f x = some (l ++ [⟨0, ⟨#[]⟩, (x.size : Int)⟩], 0, 0) := by
  obtain ⟨m, hm, ht⟩ := h
  have := ht ⟨#[]⟩ (x.size + 1 - m)
  rw [show x ++ (⟨#[]⟩ : ByteArray) = x by apply ByteArray.ext; simp [ByteArray.data_append], show x.size + 1 - m + m = x.size + 1 by omega] at this
  unfold lex_Lex.f
  rw [if_neg (by omega), this]
  refine congrArg some ?_
  rcases Nat.eq_zero_or_pos (x.size + 1 - m) with h | h
  · omega
  · obtain ⟨e, he⟩ : ∃ e, x.size + 1 - m = e + 1 := ⟨x.size - m, by omega⟩
    rw [he, lexE, if_neg (by omega)]
def SG : List ByteArray := ([(⟨#[43, 61]⟩ : ByteArray), (⟨#[45, 61]⟩ : ByteArray), (⟨#[42, 61]⟩ : ByteArray), (⟨#[37, 61]⟩ : ByteArray), (⟨#[61, 61]⟩ : ByteArray), (⟨#[60, 61]⟩ : ByteArray), (⟨#[62, 61]⟩ : ByteArray), (⟨#[33, 61]⟩ : ByteArray), (⟨#[43, 43]⟩ : ByteArray), (⟨#[45, 45]⟩ : ByteArray), (⟨#[38, 38]⟩ : ByteArray), (⟨#[124, 124]⟩ : ByteArray), (⟨#[62, 62]⟩ : ByteArray), (⟨#[33, 126]⟩ : ByteArray), (⟨#[123]⟩ : ByteArray), (⟨#[125]⟩ : ByteArray), (⟨#[40]⟩ : ByteArray), (⟨#[41]⟩ : ByteArray), (⟨#[91]⟩ : ByteArray), (⟨#[93]⟩ : ByteArray), (⟨#[59]⟩ : ByteArray), (⟨#[44]⟩ : ByteArray), (⟨#[43]⟩ : ByteArray), (⟨#[45]⟩ : ByteArray), (⟨#[42]⟩ : ByteArray), (⟨#[37]⟩ : ByteArray), (⟨#[33]⟩ : ByteArray), (⟨#[62]⟩ : ByteArray), (⟨#[60]⟩ : ByteArray), (⟨#[124]⟩ : ByteArray), (⟨#[63]⟩ : ByteArray), (⟨#[58]⟩ : ByteArray), (⟨#[126]⟩ : ByteArray), (⟨#[36]⟩ : ByteArray), (⟨#[61]⟩ : ByteArray)] : List ByteArray)
theorem sg_ok : ∀ g ∈ SG, okSign g = true ∧ 1 ≤ g.size ∧ g.size ≤ 2 := by decide +kernel
theorem rds_at (xs : List Tok) (i : Nat) (h : i < xs.length) : rd_T29 xs (i : Int) = xs[i] := by
  simp [rd_T29, List.getD, h]
theorem signs_same (l : List Tok) (y : Tok) (hl : l.length ≤ 1000000) (d : Nat) : ∀ i : Nat, i + d = l.length → Ev (fun k => scribelaw11_LexSigns.l1 k l (l ++ [y]) (l.length : Int) (i : Int)) true := by
  induction d with
  | zero =>
    intro i hi
    refine Ev.succ ?_
    simp only [scribelaw11_LexSigns.l1]
    exact Ev.neg (by omega) (Ev.bindc awake11_ev (Ev.now _))
  | succ d ih =>
    intro i hi
    refine Ev.succ ?_
    simp only [scribelaw11_LexSigns.l1]
    have hw : wrap64 ((i : Int) + 1) = ((i + 1 : Nat) : Int) := by rw [w64 (by omega) (by omega)]; omega
    refine Ev.pos (by omega) (Ev.pos (by omega) (Ev.pos (by simp; omega) (Ev.pos (by omega) ?_)))
    rw [rds_at _ i (by simp; omega), rds_at _ i (by omega), List.getElem_append_left (by omega), hw]
    exact Ev.neg (by simp) (ih (i + 1) (by omega))
theorem signs_end (x0 : List Int) (x : ByteArray) (l : List Tok) (i : Int) (h : Told x l) (hs : x.size ≤ 200) (hl : l.length ≤ 100) : Ev (fun k => scribelaw11_LexSigns.j1 k x0 SG x l i false) true := by
  refine Ev.succ ?_
  simp only [scribelaw11_LexSigns.j1]
  refine Ev.neg (by decide) (Ev.bindc (told_lex x l h (by omega)) (Ev.pos (by simp) ?_))
  have hw : wrap64 ((l.length : Int) + 1) = ((l ++ [(⟨0, ⟨#[]⟩, (x.size : Int)⟩ : Tok)]).length : Int) := by rw [w64 (by omega) (by omega)]; simp
  simp only [hw, bne_self_eq_false]
  refine Ev.succ ?_
  simp only [scribelaw11_LexSigns.j2]
  exact Ev.neg (by decide) (signs_same l _ (by omega) _ 0 (Nat.zero_add _))
theorem signs_loop (x0 : List Int) (d : Nat) : ∀ (i : Nat) (x : ByteArray) (l : List Tok), i + d = 40 → Told x l → x.size ≤ 3 * i → l.length ≤ i → Ev (fun k => scribelaw11_LexSigns.l0 k x0 SG x l (i : Int)) true := by
  induction d with
  | zero =>
    intro i x l hi h hs hl
    have hlast := signs_end x0 x l (i : Int) h (by omega) (by omega)
    refine Ev.succ ?_
    simp only [scribelaw11_LexSigns.l0]
    rw [decide_eq_false (show ¬ (i : Int) < 40 by omega)]
    by_cases hx : (i : Int) < (x0.length : Int)
    · exact Ev.pos hx hlast
    · exact Ev.neg hx hlast
  | succ d ih =>
    intro i x l hi h hs hl
    refine Ev.succ ?_
    simp only [scribelaw11_LexSigns.l0]
    by_cases hx : (i : Int) < (x0.length : Int)
    · refine Ev.pos hx ?_
      rw [decide_eq_true (show (i : Int) < 40 by omega)]
      refine Ev.succ ?_
      simp only [scribelaw11_LexSigns.j1]
      have hw : wrap64 ((i : Int) + 1) = ((i + 1 : Nat) : Int) := by rw [w64 (by omega) (by omega)]; omega
      rw [hw]
      have skip := ih (i + 1) x l (by omega) h (by omega) (by omega)
      refine Ev.pos (by simp) (Ev.pos (by omega) (Ev.pos hx ?_))
      generalize rd x0 (i : Int) = v
      by_cases h1 : v < 0
      · exact Ev.pos h1 skip
      · refine Ev.neg h1 ?_
        by_cases h2 : v ≥ (SG.length : Int)
        · exact Ev.pos h2 skip
        · have hmem : rdOf ByteArray.empty SG v ∈ SG := by
            unfold rdOf
            rw [List.getD_eq_getElem?_getD, List.getElem?_eq_getElem (show v.toNat < SG.length by omega)]
            exact List.getElem_mem _
          obtain ⟨g1, g2, g3⟩ := sg_ok _ hmem
          generalize rdOf ByteArray.empty SG v = g at *
          have hz1 : (⟨#[32]⟩ : ByteArray).size = 1 := rfl
          refine Ev.neg h2 (Ev.pos (by omega) (Ev.pos (by omega) (Ev.pos (by omega) (Ev.pos (by omega) (Ev.pos (by rw [ByteArray.size_append, hz1]; omega) ?_)))))
          exact ih (i + 1) _ _ (by omega) (told_sign x g l h g1 g2) (by rw [ByteArray.size_append, ByteArray.size_append, hz1]; omega) (by simp; omega)
    · exact Ev.neg hx (signs_end x0 x l (i : Int) h (by omega) (by omega))
theorem LexSigns_ev (l0 : List Int) : Ev (fun k => scribelaw11_LexSigns.f k l0) true := by
  unfold scribelaw11_LexSigns.f
  exact signs_loop l0 40 0 _ _ rfl told_nil (Nat.le_refl 0) (Nat.le_refl 0)
end Go.Proofs.YtpnkcihiliagcaaDoor.Pr
