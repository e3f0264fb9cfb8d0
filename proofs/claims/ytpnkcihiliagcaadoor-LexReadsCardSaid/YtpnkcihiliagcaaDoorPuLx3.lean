/- lex: number, word, slash. -/
import Derived.Test.YtpnkcihiliagcaaDoorPuLx2
import Derived.Test.YtpnkcihiliagcaaDoorShelf
import Derived.StillTailTactics
namespace Go.Proofs.YtpnkcihiliagcaaDoor.Pr
open Go Go.RowKit Go.Proofs.YtpnkcihiliagcaaDoorW.PrintWords Go.Proofs.YtpnkcihiliagcaaDoorW.PrintLast Go.Proofs.YtpnkcihiliagcaaDoorW.PrintMore
set_option linter.unusedVariables false

theorem runTo_le {P : Int → Bool} {s : ByteArray} (d : Nat) : ∀ p, p ≤ runTo P s d p ∧ runTo P s d p ≤ max p s.size := by
  induction d with
  | zero => intro p; simp [runTo]; omega
  | succ d ih =>
    intro p
    rw [runTo]
    split
    · split
      · have := ih (p + 1)
        omega
      · omega
    · omega
/-- where a number ends -/
def numE (s : ByteArray) (p : Int) : Int := if bt s (runTo dgt s s.size p) = 46 then runTo dgt s s.size (runTo dgt s s.size p + 1) else runTo dgt s s.size p
theorem numE_le {s : ByteArray} {p : Int} (h : p ≤ (s.size : Int)) (h0 : 0 ≤ p) : p ≤ numE s p ∧ numE s p ≤ s.size := by
  have h1 := runTo_le (P := dgt) (s := s) s.size p
  unfold numE
  split
  · rename_i hb
    have h2 := runTo_le (P := dgt) (s := s) s.size (runTo dgt s s.size p + 1)
    have : runTo dgt s s.size p < s.size := by
      rcases Int.lt_or_le (runTo dgt s s.size p) s.size with h | h
      · exact h
      · exfalso
        have : bt s (runTo dgt s s.size p) = 0 := by unfold bt; rw [dif_neg (by omega)]
        omega
    omega
  · omega
def cut (s : ByteArray) (a b : Int) : ByteArray := s.extract a.toNat b.toNat
set_option maxHeartbeats 4000000 in
set_option maxRecDepth 100000 in
theorem lex_number (g : Nat) (s : ByteArray) (p : Int) (ts : List Tok) (w0 w : World) (h : LX w0 w g s p ts) (h0 : 0 ≤ p) (h1 : p ≤ (s.size : Int)) (hs : s.size ≤ 100000) (hl : ts.length ≤ 1000000) :
    Calls Tryd.prog 27 #[.pointer (some ⟨g, 0, none⟩)] w fun e w' => e = .returned (.tuple #[]) ∧ LX w0 w' g s (numE s p) (ts ++ [⟨2, cut s p (numE s p), p⟩]) := by
  have hu := Tryd.underlying43
  have hlq := numE_le h1 h0
  obtain ⟨q, hq⟩ : ∃ q, numE s p = q := ⟨_, rfl⟩
  rw [hq] at hlq ⊢
  have hr := runTo_le (P := dgt) (s := s) s.size p
  unfold numE at hq
  have HL := Lib.hid h
  obtain ⟨v, hb, _⟩ := h.ex
  have c1 : w.cell? ⟨g, 1, none⟩ = some (.int .i64 p) := (blk_cell hb 1).trans rfl
  clear hb h
  have hwh := fun (W : World) (P : Int) (h : LX w0 W g s P ts) (h0 : 0 ≤ P) (h1 : P ≤ 1000000) => lex_while_digit g s P ts w0 W h h0 h1 (by omega)
  obtain ⟨r, hre⟩ : ∃ r, runTo dgt s s.size p = r := ⟨_, rfl⟩
  rw [hre] at hr hq
  obtain ⟨hr1, hr2⟩ := hr
  have hr3 : r ≤ (s.size : Int) := by omega
  clear hr2
  have Hq := Lib.hid hq
  have Hre := Lib.hid hre
  clear hq hre
  by_cases hdot : bt s r = 46
  · have hd : (bt s r == 46) = true := by simpa using hdot
    have hq := Hq.out
    rw [if_pos hdot] at hq
    clear Hq
    have Hq := Lib.hid hq
    obtain ⟨hq1, hq2⟩ := hlq
    clear hq hdot
    go_enter Tryd.func27, Tryd.ntmps27
    go_wp2_with (first | (go_at_call 23; refine (lex_while_digit g s p ts w0 _ HL.out h0 (by omega) (by omega)).mono ?_; clear HL; rintro e w1 ⟨rfl, hL1⟩; rw [Hre.out] at hL1; have HL1 := Lib.hid hL1; obtain ⟨v1, hb1, _⟩ := hL1.ex; have d0 : w1.cell? ⟨g, 0, none⟩ = some (.string s) := (blk_cell hb1 0).trans rfl; have d1 : w1.cell? ⟨g, 1, none⟩ = some (.int .i64 r) := (blk_cell hb1 1).trans rfl; clear hb1 hL1 c1) | (go_at_call 25; refine (lex_peek g s r 0 ts w0 _ HL1.out (by omega) (by omega) (by omega) (by omega)).mono ?_; rintro e w2 ⟨rfl, hL2⟩; rw [show r + 0 = r by omega]; have HL2 := Lib.hid hL2; obtain ⟨v2, hb2, _⟩ := hL2.ex; have e0 : w2.cell? ⟨g, 0, none⟩ = some (.string s) := (blk_cell hb2 0).trans rfl; have e1 : w2.cell? ⟨g, 1, none⟩ = some (.int .i64 r) := (blk_cell hb2 1).trans rfl; have e2 := blk_frozen hb2 1; clear hb2 hL2 d0 d1 HL1) | (go_at_call 23; refine (lex_while_digit g s (r + 1) ts w0 _ (LX.goto HL2.out _) (by omega) (by omega) (by omega)).mono ?_; rintro e w3 ⟨rfl, hL3⟩; rw [Hq.out] at hL3; have HL3 := Lib.hid hL3; obtain ⟨v3, hb3, _⟩ := hL3.ex; have z0 : w3.cell? ⟨g, 0, none⟩ = some (.string s) := (blk_cell hb3 0).trans rfl; have z1 : w3.cell? ⟨g, 1, none⟩ = some (.int .i64 q) := (blk_cell hb3 1).trans rfl; clear hb3 hL3 e0 e1 e2 HL2))
    go_still_tail 12, (by kernel_rfl)
    change wpList _ _ _ _ _ w3.drew
    go_wp2_with (go_at_call 18; refine (lex_put g s q ts ⟨2, cut s p q, p⟩ w0 _ (LX.drew HL3.out) hl).mono ?_; rintro e w9 ⟨rfl, hL9⟩; have HL9 := Lib.hid hL9; clear hL9)
    go_end0
    exact ⟨rfl, HL9.out⟩
  · have hd : (bt s r == 46) = false := by simpa using hdot
    have hq := Hq.out
    rw [if_neg hdot] at hq
    clear Hq hdot
    subst hq
    go_enter Tryd.func27, Tryd.ntmps27
    go_wp2_with (first | (go_at_call 23; refine (lex_while_digit g s p ts w0 _ HL.out h0 (by omega) (by omega)).mono ?_; clear HL; rintro e w1 ⟨rfl, hL1⟩; rw [Hre.out] at hL1; have HL1 := Lib.hid hL1; obtain ⟨v1, hb1, _⟩ := hL1.ex; have d0 : w1.cell? ⟨g, 0, none⟩ = some (.string s) := (blk_cell hb1 0).trans rfl; have d1 : w1.cell? ⟨g, 1, none⟩ = some (.int .i64 r) := (blk_cell hb1 1).trans rfl; clear hb1 hL1 c1) | (go_at_call 25; refine (lex_peek g s r 0 ts w0 _ HL1.out (by omega) (by omega) (by omega) (by omega)).mono ?_; rintro e w2 ⟨rfl, hL2⟩; rw [show r + 0 = r by omega]; have HL2 := Lib.hid hL2; obtain ⟨v2, hb2, _⟩ := hL2.ex; have e0 : w2.cell? ⟨g, 0, none⟩ = some (.string s) := (blk_cell hb2 0).trans rfl; have e1 : w2.cell? ⟨g, 1, none⟩ = some (.int .i64 r) := (blk_cell hb2 1).trans rfl; have e2 := blk_frozen hb2 1; clear hb2 hL2 d0 d1 HL1))
    go_still_tail 12, (by kernel_rfl)
    change wpList _ _ _ _ _ w2.drew
    go_wp2_with (go_at_call 18; refine (lex_put g s r ts ⟨2, cut s p r, p⟩ w0 _ (LX.drew HL2.out) hl).mono ?_; rintro e w9 ⟨rfl, hL9⟩; have HL9 := Lib.hid hL9; clear hL9)
    go_end0
    exact ⟨rfl, HL9.out⟩
end Go.Proofs.YtpnkcihiliagcaaDoor.Pr
