/- lex: the program's tokens are the document's; plain Lean. -/
import Derived.Test.YtpnkcihiliagcaaDoorPuLxR1
import Derived.Test.YtpnkcihiliagcaaDoorPr20
import Derived.Test.YtpnkcihiliagcaaDoorPr21
import Derived.Test.YtpnkcihiliagcaaDoorPr22
namespace Go.Proofs.YtpnkcihiliagcaaDoor.Pr
open Go Go.RowKit Go.Proofs.YtpnkcihiliagcaaDoorW.PrintWords Go.Proofs.YtpnkcihiliagcaaDoorW.PrintLast Go.Proofs.YtpnkcihiliagcaaDoorW.PrintMore
set_option linter.unusedVariables false
set_option linter.unusedSimpArgs false

abbrev RTok := S46
def rt (t : Tok) : RTok := ⟨t.f0, t.f1, t.f2⟩
theorem rd_rt (ts : List Tok) (i : Nat) (h : i < ts.length) : rd_T46 (ts.map rt) (i : Int) = rt ts[i] := by
  simp [rd_T46, List.getD, h]
theorem among_iff (w : ByteArray) (l : List UInt8) (zs : List ByteArray) (hz : wordsIn [] l = zs.map fun z => z.data.toList) (hl : l.length ≤ 100000) :
    Ev (fun k => scriberef11_among.f k w ⟨l.toArray⟩) (Lib.containsS zs w) := by
  have h := among_ev w.data.toList l hl
  rw [B_eta] at h
  have e : (wordsIn [] l).contains w.data.toList = Lib.containsS zs w := by
    rw [Bool.eq_iff_iff, Lib.containsS_iff, hz, List.contains_iff_mem, List.mem_map]
    constructor
    · rintro ⟨z, hz, he⟩
      rwa [← B_eta w, ← he, B_eta]
    · intro h; exact ⟨w, h, rfl⟩
  rw [e] at h
  exact h
theorem pattern_ev (ts : List Tok) (hl : ts.length ≤ 100000) : Ev (fun k => scriberef11_pattern.f k (ts.map rt)) (slashB ts) := by
  unfold scriberef11_pattern.f
  rcases List.eq_nil_or_concat ts with rfl | ⟨l, t, rfl⟩
  · exact Ev.pos rfl (Ev.now _)
  · rw [List.concat_eq_append] at hl ⊢
    rw [show slashB (l ++ [t]) = slashT t by simp [slashB]]
    have hlen : ((l ++ [t]).map rt).length = l.length + 1 := by simp
    rw [List.length_append, List.length_singleton] at hl
    have hw : wrap64 ((((l ++ [t]).map rt).length : Int) - 1) = ((l.length : Nat) : Int) := by rw [hlen, w64 (by omega) (by omega)]; omega
    have hrd : rd_T46 ((l ++ [t]).map rt) ((l.length : Nat) : Int) = rt t := by rw [rd_rt _ _ (by simp)]; simp
    rw [hw, hrd]
    refine Ev.neg (by rw [hlen]; omega) (Ev.pos (by omega) (Ev.pos (by rw [hlen]; omega) ?_))
    have ham := among_iff t.f1 [41, 32, 93, 32, 43, 43, 32, 45, 45] befT (by decide +kernel) (by decide)
    have tail : Ev (fun k => if (rt t).f0 = 8 then ((scriberef11_among.f k ((rt t).f1) (⟨#[41, 32, 93, 32, 43, 43, 32, 45, 45]⟩ : ByteArray)).bind fun t307 => (some (!t307))) else (some true)) (if t.f0 = 8 then !(Lib.containsS befT t.f1) else true) := by
      by_cases h8 : t.f0 = 8
      · rw [if_pos h8]
        exact Ev.pos h8 (Ev.bind' ham (Ev.now _))
      · rw [if_neg h8]
        exact Ev.neg h8 (Ev.now _)
    have htl : t.f1.toList = t.f1.data.toList := Lib.toList_data _
    unfold slashT
    by_cases h2 : t.f0 ≥ 2
    · refine Ev.pos h2 ?_
      by_cases h5 : t.f0 ≤ 5
      · rw [if_pos (by omega)]
        exact Ev.pos h5 (Ev.now _)
      · rw [if_neg (by omega)]
        refine Ev.neg h5 ?_
        by_cases h9 : t.f0 = 9
        · rw [if_pos h9]
          refine Ev.pos h9 ?_
          by_cases hlg : t.f1.toList = [108, 101, 110, 103, 116, 104]
          · have : (t.f1.toList != [108, 101, 110, 103, 116, 104]) = false := by rw [hlg]; rfl
            rw [this]
            exact Ev.pos hlg (Ev.now _)
          · have : (t.f1.toList != [108, 101, 110, 103, 116, 104]) = true := bne_iff_ne.2 hlg
            rw [this]
            refine Ev.neg hlg (Ev.neg (show ¬ t.f0 = 8 by omega) (Ev.now _))
        · rw [if_neg h9]
          exact Ev.neg h9 tail
    · rw [if_neg (by omega), if_neg (by omega)]
      refine Ev.neg h2 (Ev.neg (show ¬ t.f0 = 9 by omega) tail)
def twosW : List ByteArray := [⟨#[43, 61]⟩, ⟨#[45, 61]⟩, ⟨#[42, 61]⟩, ⟨#[47, 61]⟩, ⟨#[37, 61]⟩, ⟨#[61, 61]⟩, ⟨#[60, 61]⟩, ⟨#[62, 61]⟩, ⟨#[33, 61]⟩, ⟨#[43, 43]⟩, ⟨#[45, 45]⟩, ⟨#[38, 38]⟩, ⟨#[124, 124]⟩, ⟨#[62, 62]⟩, ⟨#[33, 126]⟩]
def onesW : List ByteArray := [⟨#[123]⟩, ⟨#[125]⟩, ⟨#[40]⟩, ⟨#[41]⟩, ⟨#[91]⟩, ⟨#[93]⟩, ⟨#[59]⟩, ⟨#[44]⟩, ⟨#[43]⟩, ⟨#[45]⟩, ⟨#[42]⟩, ⟨#[47]⟩, ⟨#[37]⟩, ⟨#[33]⟩, ⟨#[62]⟩, ⟨#[60]⟩, ⟨#[124]⟩, ⟨#[63]⟩, ⟨#[58]⟩, ⟨#[126]⟩, ⟨#[36]⟩, ⟨#[61]⟩]
theorem ones_eq : ∀ n, n < 256 → decide (0 ≤ oneI (n : Nat)) = Lib.containsS onesW ⟨#[n.toUInt8]⟩ := by decide +kernel
/-- a word of two bytes between blanks stands in a text that begins with a blank, at an even turn -/
theorem index_step (b : UInt8) (l sub : List UInt8) : decide (0 ≤ Lib.index (b :: l) sub) = (sub.isPrefixOf (b :: l) || decide (0 ≤ Lib.index l sub)) := by
  rw [Lib.index]
  cases h : sub.isPrefixOf (b :: l) with
  | true => simp
  | false =>
    have hg := Lib.index_ge l sub
    simp only [Bool.false_eq_true, if_false, Bool.false_or]
    by_cases h1 : Lib.index l sub = -1
    · rw [h1]; rfl
    · have : (Lib.index l sub == -1) = false := beq_eq_false_iff_ne.2 h1
      rw [this]
      simp only [Bool.false_eq_true, if_false]
      apply decide_eq_decide.2
      omega
theorem twos_eq (a b : UInt8) (ha : a ≠ 32) : twoB ⟨#[a, b]⟩ = Lib.containsS twosW ⟨#[a, b]⟩ := by
  have e1 : twoB ⟨#[a, b]⟩ = decide (0 ≤ Lib.index twosT.data.toList [32, a, b, 32]) := rfl
  have hba : ∀ x y : UInt8, ((⟨#[x, y]⟩ : ByteArray) = ⟨#[a, b]⟩) ↔ (x = a ∧ y = b) := by
    intro x y
    constructor
    · intro h
      injection h with h
      have := congrArg Array.toList h
      simpa using this
    · rintro ⟨rfl, rfl⟩; rfl
  rw [e1, Bool.eq_iff_iff, Lib.containsS_iff]
  have hT : twosT.data.toList = [32, 43, 61, 32, 45, 61, 32, 42, 61, 32, 47, 61, 32, 37, 61, 32, 61, 61, 32, 60, 61, 32, 62, 61, 32, 33, 61, 32, 43, 43, 32, 45, 45, 32, 38, 38, 32, 124, 124, 32, 62, 62, 32, 33, 126, 32] := rfl
  rw [hT]
  simp only [index_step, List.isPrefixOf, Bool.or_eq_true, Bool.and_eq_true, beq_iff_eq, twosW, List.mem_cons, List.not_mem_nil, or_false]
  simp [Lib.index, ha.symm, eq_comm (a := (⟨#[a, b]⟩ : ByteArray)), hba, eq_comm (a := a), eq_comm (a := b)]
end Go.Proofs.YtpnkcihiliagcaaDoor.Pr
