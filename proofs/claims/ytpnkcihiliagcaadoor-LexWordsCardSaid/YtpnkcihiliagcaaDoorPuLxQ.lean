/- lex: a word alone, and a text in quotes alone; plain Lean. -/
import Derived.Test.YtpnkcihiliagcaaDoorPuLxO
namespace Go.Proofs.YtpnkcihiliagcaaDoor.Pr
open Go Go.RowKit Go.Proofs.YtpnkcihiliagcaaDoorW.PrintWords Go.Proofs.YtpnkcihiliagcaaDoorW.PrintLast Go.Proofs.YtpnkcihiliagcaaDoorW.PrintMore
set_option linter.unusedVariables false

theorem cut_all (s : ByteArray) : cut s 0 s.size = s := by
  unfold cut
  apply ByteArray.ext
  rw [ByteArray.data_extract, Int.toNat_natCast]
  exact Array.extract_size
theorem ltr_first {c : Int} (h : ltr c = true) : (c == 32 || (c == 9 || c == 13)) = false ∧ (c == 35) = false ∧ (c == 92) = false ∧ (c == 10) = false ∧ dgt c = false ∧ (c == 46) = false := by
  have h' : (97 ≤ c ∧ c ≤ 122) ∨ (65 ≤ c ∧ c ≤ 90) ∨ c = 95 := by simpa [ltr] using h
  refine ⟨?_, ?_, ?_, ?_, ?_, ?_⟩
  · simp; omega
  · simp; omega
  · simp; omega
  · simp; omega
  · unfold dgt; exact decide_eq_false (by omega)
  · simp; omega
theorem next_word (s t : ByteArray) (hs : 0 < s.size) (h0 : ltr (bt s 0) = true) (hall : ∀ q : Int, 0 ≤ q → q < (s.size : Int) → ltd (bt s q) = true) (ht : ltd (bt t 0) = false) :
    nextE (s ++ t) 0 [] = (0, (s.size : Int), [⟨wordK (s ++ t) s.size s, s, 0⟩]) := by
  have hsz : (s ++ t).size = s.size + t.size := ByteArray.size_append
  have hb : bt (s ++ t) 0 = bt s 0 := bt_left s t 0 (by omega) (by omega)
  have hbs : bt (s ++ t) s.size = bt t 0 := by have := bt_right s t 0 (by omega); rwa [Int.add_zero] at this
  have hrun : ∀ (d : Nat) (p : Int), 0 ≤ p → p ≤ (s.size : Int) → (s.size : Int) - p ≤ d → runTo ltd (s ++ t) d p = s.size := by
    intro d
    induction d with
    | zero => intro p h0 h1 h2; exact (by omega : p = (s.size : Int))
    | succ d ih =>
      intro p h0 h1 h2
      rw [runTo]
      by_cases hp : p < (s.size : Int)
      · rw [if_pos (by omega), bt_left s t p h0 hp, hall p h0 hp, if_pos rfl]
        exact ih (p + 1) (by omega) (by omega) (by omega)
      · obtain rfl : p = (s.size : Int) := by omega
        rw [hbs, ht]
        split <;> rfl
  have hw : wordE (s ++ t) 0 = s.size := hrun _ 0 (by omega) (by omega) (by omega)
  have hc : cut (s ++ t) 0 s.size = s := by rw [cut_left s t 0 _ (by omega) (by omega)]; exact cut_all s
  obtain ⟨a1, a2, a3, a4, a5, a6⟩ := ltr_first h0
  unfold nextE
  rw [hb, hw, hc, a1, a2, a3, a4, a5, a6, h0]
  simp
theorem word_alone (s : ByteArray) (hs : 0 < s.size) (hm : s.size ≤ 4000) (h0 : ltr (bt s 0) = true) (hall : ∀ q : Int, 0 ≤ q → q < (s.size : Int) → ltd (bt s q) = true) :
    lex_Lex.f s = some ([⟨wordK s s.size s, s, 0⟩, ⟨0, ⟨#[]⟩, (s.size : Int)⟩], 0, 0) := by
  have hn := next_word s ⟨#[]⟩ hs h0 hall (by decide)
  rw [show s ++ (⟨#[]⟩ : ByteArray) = s from ByteArray.append_empty] at hn
  unfold lex_Lex.f
  rw [if_neg (by omega), lexE, if_pos (by omega), hn]
  simp only [if_true]
  rw [lexE_fin]
  rfl
theorem word_open (s : ByteArray) (hs : 0 < s.size) (hm : s.size ≤ 3000) (h0 : ltr (bt s 0) = true) (hall : ∀ q : Int, 0 ≤ q → q < (s.size : Int) → ltd (bt s q) = true) :
    lex_Lex.f (s ++ (⟨#[40]⟩ : ByteArray)) = some ([⟨wordK (s ++ (⟨#[40]⟩ : ByteArray)) s.size s, s, 0⟩, ⟨8, ⟨#[40]⟩, (s.size : Int)⟩, ⟨0, ⟨#[]⟩, (s.size : Int) + 1⟩], 0, 0) := by
  have hn := next_word s ⟨#[40]⟩ hs h0 hall (by decide)
  have hsz : (s ++ (⟨#[40]⟩ : ByteArray)).size = s.size + 1 := ByteArray.size_append
  have hbs : bt (s ++ (⟨#[40]⟩ : ByteArray)) s.size = 40 := by have := bt_right s (⟨#[40]⟩ : ByteArray) 0 (by omega); rw [Int.add_zero] at this; rw [this]; rfl
  have hc : cut (s ++ (⟨#[40]⟩ : ByteArray)) s.size ((s.size : Int) + 1) = ⟨#[40]⟩ := by
    have := cut_sh s (⟨#[40]⟩ : ByteArray) 0 1 (by omega) (by omega)
    rw [Int.add_zero] at this
    rw [this]; rfl
  have hone : decide (0 ≤ oneI 40) = true := by decide +kernel
  have hn2 : ∀ ts, nextE (s ++ (⟨#[40]⟩ : ByteArray)) s.size ts = (0, (s.size : Int) + 1, ts ++ [⟨8, ⟨#[40]⟩, (s.size : Int)⟩]) := by
    intro ts
    unfold nextE
    rw [hbs, show signE (s ++ (⟨#[40]⟩ : ByteArray)) s.size ts = (0, (s.size : Int) + 1, ts ++ [⟨8, ⟨#[40]⟩, (s.size : Int)⟩]) by
      unfold signE
      rw [hbs, hc, hone, decide_eq_false (by omega)]
      rfl]
    rfl
  unfold lex_Lex.f
  rw [if_neg (by omega), hsz, lexE, if_pos (by omega), hn]
  simp only [if_true]
  rw [lexE, if_pos (by omega), hn2]
  simp only [if_true]
  have he := lexE_fin (s ++ (⟨#[40]⟩ : ByteArray)) s.size
  rw [hsz, Int.natCast_add, Int.natCast_one] at he
  rw [he]
  rfl
/-- a text as it is written between quotes -/
def escB (c : UInt8) : List UInt8 := if c = 34 ∨ c = 92 then [92, c] else if c = 10 then [92, 110] else [c]
def escL : List UInt8 → List UInt8
  | [] => []
  | c :: l => escB c ++ escL l
theorem bt_mk (x : ByteArray) (l : List UInt8) (i : Nat) (h : i < l.length) : bt (x ++ ⟨l.toArray⟩) ((x.size : Int) + i) = (l[i].toNat : Int) := by
  rw [bt_right x _ i (by omega)]
  unfold bt
  rw [dif_pos (by show i < l.toArray.size; simpa using h)]
  rfl
theorem quote_esc (a : Int) : ∀ (l : List UInt8) (x : ByteArray) (out : List UInt8) (k : Nat), l.length < k →
    quoteL howS (x ++ ⟨(escL l ++ [34]).toArray⟩) 34 a k x.size out = (true, (x.size : Int) + (escL l).length + 1, out ++ l) := by
  intro l
  induction l with
  | nil =>
    intro x out k hk
    obtain ⟨e, rfl⟩ : ∃ e, k = e + 1 := ⟨k - 1, by simp at hk; omega⟩
    have hb := bt_mk x (escL [] ++ [34]) 0 (by simp)
    have hsz : (x ++ (⟨(escL [] ++ [34]).toArray⟩ : ByteArray)).size = x.size + 1 := ByteArray.size_append
    rw [show ((0 : Nat) : Int) = 0 from rfl, Int.add_zero] at hb
    have hb : bt (x ++ ⟨(escL [] ++ [34]).toArray⟩) x.size = 34 := hb
    rw [quoteL, hb, if_neg (by omega), if_pos (by decide)]
    simp [escL]
  | cons c l ih =>
    intro x out k hk
    rw [List.length_cons] at hk
    obtain ⟨e, rfl⟩ : ∃ e, k = e + 1 := ⟨k - 1, by omega⟩
    have happ : ∀ y z : List UInt8, x ++ (⟨(y ++ z).toArray⟩ : ByteArray) = (x ++ ⟨y.toArray⟩) ++ ⟨z.toArray⟩ := by
      intro y z
      apply ByteArray.ext
      simp
    have hlen : (x ++ (⟨(escL (c :: l) ++ [34]).toArray⟩ : ByteArray)).size = x.size + ((escL (c :: l)).length + 1) := by
      rw [ByteArray.size_append]
      congr 1
      show (escL (c :: l) ++ [34]).toArray.size = _
      simp
    have hsplit : x ++ (⟨(escL (c :: l) ++ [34]).toArray⟩ : ByteArray) = (x ++ ⟨(escB c).toArray⟩) ++ ⟨(escL l ++ [34]).toArray⟩ := by
      rw [← happ]
      simp [escL]
    have hxs : (x ++ (⟨(escB c).toArray⟩ : ByteArray)).size = x.size + (escB c).length := by
      rw [ByteArray.size_append]; congr 1
    have hb0 := bt_mk x (escL (c :: l) ++ [34]) 0 (by simp)
    rw [show ((0 : Nat) : Int) = 0 from rfl, Int.add_zero] at hb0
    have hll : (escL (c :: l)).length = (escB c).length + (escL l).length := by simp [escL]
    rw [quoteL]
    by_cases h1 : c = 34 ∨ c = 92
    · have hE : escB c = [92, c] := by rw [escB, if_pos h1]
      have hb1 := bt_mk x (escL (c :: l) ++ [34]) 1 (by simp [hll, hE]; omega)
      have g0 : bt (x ++ ⟨(escL (c :: l) ++ [34]).toArray⟩) x.size = 92 := by rw [hb0]; simp [escL, hE]
      have g1 : bt (x ++ ⟨(escL (c :: l) ++ [34]).toArray⟩) ((x.size : Int) + 1) = (c.toNat : Int) := by rw [show ((1 : Nat) : Int) = 1 from rfl] at hb1; rw [hb1]; simp [escL, hE]
      rw [hE] at hll hxs
      simp only [List.length_cons, List.length_nil, Nat.zero_add, Nat.reduceAdd] at hll hxs
      have hhow : howS (c.toNat : Int) = (⟨#[c]⟩, true) := by rcases h1 with rfl | rfl <;> rfl
      rw [g0, g1, hhow, if_neg (by omega), if_neg (by decide), if_pos rfl, if_neg (by rintro (h | h); exact Bool.noConfusion h; omega), hsplit, hE]
      have := ih (x ++ ⟨([92, c] : List UInt8).toArray⟩) (out ++ [c]) e (by omega)
      rw [hxs] at this
      rw [show ((x.size : Int) + 2) = ((x.size + 2 : Nat) : Int) by omega]
      refine this.trans ?_
      rw [hll]
      simp
      omega
    · by_cases h2 : c = 10
      · subst h2
        have hE : escB 10 = [92, 110] := rfl
        have hb1 := bt_mk x (escL (10 :: l) ++ [34]) 1 (by simp [hll, hE]; omega)
        have g0 : bt (x ++ ⟨(escL (10 :: l) ++ [34]).toArray⟩) x.size = 92 := by rw [hb0]; simp [escL, hE]
        have g1 : bt (x ++ ⟨(escL (10 :: l) ++ [34]).toArray⟩) ((x.size : Int) + 1) = 110 := by rw [show ((1 : Nat) : Int) = 1 from rfl] at hb1; rw [hb1]; simp [escL, hE]
        rw [hE] at hll hxs
        simp only [List.length_cons, List.length_nil, Nat.zero_add, Nat.reduceAdd] at hll hxs
        have hhow : howS 110 = (⟨#[10]⟩, true) := rfl
        rw [g0, g1, hhow, if_neg (by omega), if_neg (by decide), if_pos rfl, if_neg (by rintro (h | h); exact Bool.noConfusion h; omega), hsplit, hE]
        have := ih (x ++ ⟨([92, 110] : List UInt8).toArray⟩) (out ++ [10]) e (by omega)
        rw [hxs] at this
        rw [show ((x.size : Int) + 2) = ((x.size + 2 : Nat) : Int) by omega]
        refine this.trans ?_
        rw [hll]
        simp
        omega
      · have hE : escB c = [c] := by rw [escB, if_neg h1, if_neg h2]
        have g0 : bt (x ++ ⟨(escL (c :: l) ++ [34]).toArray⟩) x.size = (c.toNat : Int) := by rw [hb0]; simp [escL, hE]
        rw [hE] at hll hxs
        simp only [List.length_cons, List.length_nil, Nat.zero_add] at hll hxs
        have n34 : (c.toNat : Int) ≠ 34 := fun h => h1 (.inl (UInt8.toNat_inj.1 (by simpa using Int.ofNat_inj.1 h)))
        have n92 : (c.toNat : Int) ≠ 92 := fun h => h1 (.inr (UInt8.toNat_inj.1 (by simpa using Int.ofNat_inj.1 h)))
        have n10 : (c.toNat : Int) ≠ 10 := fun h => h2 (UInt8.toNat_inj.1 (by simpa using Int.ofNat_inj.1 h))
        rw [g0, if_neg (by omega), if_neg n34, if_neg n92, hsplit, hE]
        have := ih (x ++ ⟨([c] : List UInt8).toArray⟩) (out ++ [c]) e (by omega)
        rw [hxs] at this
        rw [show ((x.size : Int) + 1) = ((x.size + 1 : Nat) : Int) by omega, show ((c.toNat : Int)).toNat.toUInt8 = c by simp]
        refine this.trans ?_
        rw [hll]
        simp
        omega
theorem esc_len (l : List UInt8) : (escL l).length ≤ 2 * l.length ∧ l.length ≤ (escL l).length := by
  induction l with
  | nil => simp [escL]
  | cons c l ih =>
    have h : 1 ≤ (escB c).length ∧ (escB c).length ≤ 2 := by unfold escB; split; simp; split <;> simp
    simp [escL]; omega
/-- between quotes a text is read as itself -/
theorem lex_quote (s : ByteArray) (hs : s.size ≤ 1000) : lex_Lex.f ((⟨#[34]⟩ : ByteArray) ++ ⟨(escL s.data.toList ++ [34]).toArray⟩) = some ([⟨3, s, 0⟩, ⟨0, ⟨#[]⟩, ((escL s.data.toList).length : Int) + 2⟩], 0, 0) := by
  have hl : s.data.toList.length = s.size := by simp
  have he := esc_len s.data.toList
  have hq := quote_esc 0 s.data.toList ⟨#[34]⟩ []
  have hsz : ((⟨#[34]⟩ : ByteArray) ++ (⟨(escL s.data.toList ++ [34]).toArray⟩ : ByteArray)).size = (escL s.data.toList).length + 2 := by
    rw [ByteArray.size_append]
    show 1 + (escL s.data.toList ++ [34]).toArray.size = _
    simp; omega
  have hb : bt ((⟨#[34]⟩ : ByteArray) ++ (⟨(escL s.data.toList ++ [34]).toArray⟩ : ByteArray)) 0 = 34 := by
    rw [bt_left _ _ 0 (by omega) (by decide)]; rfl
  generalize hW : (⟨#[34]⟩ : ByteArray) ++ (⟨(escL s.data.toList ++ [34]).toArray⟩ : ByteArray) = W at hq hsz hb ⊢
  have hn : nextE W 0 [] = (0, ((escL s.data.toList).length : Int) + 2, [⟨3, s, 0⟩]) := by
    have hq1 : quoteL howS W 34 0 (W.size + 1) (0 + 1) [] = (true, ((escL s.data.toList).length : Int) + 2, s.data.toList) := by
      have := hq (W.size + 1) (by omega)
      refine this.trans ?_
      simp
      show (1 : Int) + _ + 1 = _
      omega
    have hd : dgt 34 = false := by decide
    have hlt : ltr 34 = false := by decide
    unfold nextE
    rw [hb, hq1, hd, hlt]
    simp [errQ, tsQ]
  unfold lex_Lex.f
  rw [if_neg (by omega), lexE, if_pos (by omega), hn]
  simp only [if_true]
  have hend := lexE_fin W W.size [⟨3, s, 0⟩]
  rw [hsz] at hend
  rw [hsz, show ((escL s.data.toList).length : Int) + 2 = (((escL s.data.toList).length + 2 : Nat) : Int) by omega, hend]
  rfl
end Go.Proofs.YtpnkcihiliagcaaDoor.Pr
