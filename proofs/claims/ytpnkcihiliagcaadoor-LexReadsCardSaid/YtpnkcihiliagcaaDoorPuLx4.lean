/- lex: word. -/
import Derived.Test.YtpnkcihiliagcaaDoorPuLx3
namespace Go.Proofs.YtpnkcihiliagcaaDoor.Pr
open Go Go.RowKit Go.Proofs.YtpnkcihiliagcaaDoorW.PrintWords Go.Proofs.YtpnkcihiliagcaaDoorW.PrintLast Go.Proofs.YtpnkcihiliagcaaDoorW.PrintMore
set_option linter.unusedVariables false

def wordE (s : ByteArray) (p : Int) : Int := runTo ltd s s.size p
def wordK (s : ByteArray) (q : Int) (x : ByteArray) : Int :=
  if Lib.containsS wordsT x = true then 7 else if Lib.containsS builtinsT x = true then 9 else if Lib.containsS bannedT x = true then 10 else if bt s q = 40 then 6 else 5
theorem has_any {w : World} {n : Nat} {zs : List ByteArray} (h : LaidS w n zs) (x : ByteArray) : ∃ v, w.cell? ⟨n, 0, none⟩ = some v ∧ (∃ b o c, v = .slice (some ⟨b, o, none⟩) zs.length c) ∧ ∀ m, Calls Tryd.prog 43 #[v, .string x] (w.drewN m) fun e w' => e = .returned (.bool (Lib.containsS zs x)) ∧ w' = w.drewN m := by
  obtain ⟨b, o, c, h1, h2, h3, h4⟩ := h
  refine ⟨_, h1, ⟨b, o, c, rfl⟩, fun m => ?_⟩
  have := Tryd.slices_Contains_string b o zs.length c zs x (w.drewN m) (Nat.le_refl _) (by omega) h4
  rwa [List.take_length] at this
theorem wordE_le {s : ByteArray} {p : Int} (h : p ≤ (s.size : Int)) : p ≤ wordE s p ∧ wordE s p ≤ s.size := by
  have := runTo_le (P := ltd) (s := s) s.size p
  unfold wordE
  omega
set_option maxHeartbeats 8000000 in
set_option maxRecDepth 100000 in
theorem lex_word (g : Nat) (s : ByteArray) (p : Int) (ts : List Tok) (w0 w : World) (hT : TB w0) (h : LX w0 w g s p ts) (h0 : 0 ≤ p) (h1 : p ≤ (s.size : Int)) (hs : s.size ≤ 100000) (hl : ts.length ≤ 1000000) :
    Calls Tryd.prog 29 #[.pointer (some ⟨g, 0, none⟩)] w fun e w' => e = .returned (.tuple #[]) ∧ LX w0 w' g s (wordE s p) (ts ++ [⟨wordK s (wordE s p) (cut s p (wordE s p)), cut s p (wordE s p), p⟩]) := by
  have hu := Tryd.underlying43
  obtain ⟨hq1, hq2⟩ := wordE_le h1
  obtain ⟨q, hq⟩ : ∃ q, wordE s p = q := ⟨_, rfl⟩
  rw [hq] at hq1 hq2 ⊢
  unfold wordE at hq
  have Hq := Lib.hid hq
  have HL := Lib.hid h
  obtain ⟨v, hb, _⟩ := h.ex
  have c1 : w.cell? ⟨g, 1, none⟩ = some (.int .i64 p) := (blk_cell hb 1).trans rfl
  obtain ⟨K, hK⟩ : ∃ K, wordK s q (cut s p q) = K := ⟨_, rfl⟩
  rw [hK]
  unfold wordK at hK
  clear hb h hq
  obtain ⟨k0, e0⟩ : ∃ k, Lib.containsS wordsT (cut s p q) = k := ⟨_, rfl⟩
  obtain ⟨k1, e1⟩ : ∃ k, Lib.containsS builtinsT (cut s p q) = k := ⟨_, rfl⟩
  obtain ⟨k2, e2⟩ : ∃ k, Lib.containsS bannedT (cut s p q) = k := ⟨_, rfl⟩
  rw [e0, e1, e2] at hK
  have E0 := Lib.hid e0
  have E1 := Lib.hid e1
  have E2 := Lib.hid e2
  clear e0 e1 e2
  have hk : (k0 = true ∧ K = 7) ∨ (k0 = false ∧ k1 = true ∧ K = 9) ∨ (k0 = false ∧ k1 = false ∧ k2 = true ∧ K = 10) ∨ (k0 = false ∧ k1 = false ∧ k2 = false ∧ bt s q = 40 ∧ K = 6) ∨ (k0 = false ∧ k1 = false ∧ k2 = false ∧ bt s q ≠ 40 ∧ K = 5) := by
    cases k0
    · cases k1
      · cases k2
        · by_cases h : bt s q = 40
          · simp [h] at hK; simp [hK, h]
          · simp [h] at hK; simp [hK, h]
        · simp at hK; simp [hK]
      · simp at hK; simp [hK]
    · simp at hK; simp [hK]
  clear hK
  rcases hk with ⟨rfl, rfl⟩ | ⟨rfl, rfl, rfl⟩ | ⟨rfl, rfl, rfl, rfl⟩ | ⟨rfl, rfl, rfl, h40, rfl⟩ | ⟨rfl, rfl, rfl, h40, rfl⟩
  all_goals
    (try have hb40 : (bt s q == 40) = true := by simpa using h40)
    (try have hb40 : (bt s q == 40) = false := by simpa using h40)
    (try clear h40)
    go_enter Tryd.func29, Tryd.ntmps29
    go_wp2_with (go_at_call 23; refine (lex_while_word g s p ts w0 _ HL.out h0 (by omega) (by omega)).mono ?_; clear HL; rintro e w1 ⟨rfl, hL1⟩; rw [Hq.out] at hL1; have HL1 := Lib.hid hL1; obtain ⟨v1, hb1, _⟩ := hL1.ex; have d0 : w1.cell? ⟨g, 0, none⟩ = some (.string s) := (blk_cell hb1 0).trans rfl; have d1 : w1.cell? ⟨g, 1, none⟩ = some (.int .i64 q) := (blk_cell hb1 1).trans rfl; have hT1 := hT.below hL1.bel; obtain ⟨z0, y0, ⟨_, _, _, i0⟩, C0⟩ := has_any hT1.words (cut s p q); obtain ⟨z1, y1, ⟨_, _, _, i1⟩, C1⟩ := has_any hT1.builtins (cut s p q); obtain ⟨z2, y2, ⟨_, _, _, i2⟩, C2⟩ := has_any hT1.banned (cut s p q); rw [E0.out] at C0; rw [E1.out] at C1; rw [E2.out] at C2; unfold cut at C0 C1 C2; subst i0 i1 i2; clear hb1 hL1 c1 hT1)
    go_quiet (fail)
    go_wp2_with (first | (go_at_call 43; ((with_reducible refine (C0 _).mono ?_); rintro e w' ⟨rfl, rfl⟩)) | (go_at_call 43; ((with_reducible refine (C1 _).mono ?_); rintro e w' ⟨rfl, rfl⟩)) | (go_at_call 43; ((with_reducible refine (C2 _).mono ?_); rintro e w' ⟨rfl, rfl⟩)) | (go_at_call 25; refine (lex_peek g s q 0 ts w0 _ (LX.drewN HL1.out _) (by omega) (by omega) (by omega) (by omega)).mono ?_; rintro e w2 ⟨rfl, hL2⟩; rw [show q + 0 = q by omega]; have HL2 := Lib.hid hL2; clear hL2) | (go_at_call 18; refine (lex_put g s q ts ⟨_, cut s p q, p⟩ w0 _ (by first | exact HL2.out | exact LX.drewN HL1.out _) hl).mono ?_; rintro e w9 ⟨rfl, hL9⟩; have HL9 := Lib.hid hL9; clear hL9))
    go_end0
    exact ⟨rfl, HL9.out⟩
end Go.Proofs.YtpnkcihiliagcaaDoor.Pr
