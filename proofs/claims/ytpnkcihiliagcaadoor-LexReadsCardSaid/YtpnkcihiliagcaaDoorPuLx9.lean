/- lex: next. -/
import Derived.Test.YtpnkcihiliagcaaDoorPuLx8
namespace Go.Proofs.YtpnkcihiliagcaaDoor.Pr
open Go Go.RowKit Go.Proofs.YtpnkcihiliagcaaDoorW.PrintWords Go.Proofs.YtpnkcihiliagcaaDoorW.PrintLast Go.Proofs.YtpnkcihiliagcaaDoorW.PrintMore
set_option linter.unusedVariables false
set_option linter.unusedSimpArgs false

def signE (s : ByteArray) (p : Int) (ts : List Tok) : Int × Int × List Tok :=
  if decide (p + 2 ≤ (s.size : Int)) && twoB (cut s p (p + 2)) then (0, p + 2, ts ++ [⟨8, cut s p (p + 2), p⟩])
  else if decide (0 ≤ oneI (bt s p)) then (0, p + 1, ts ++ [⟨8, cut s p (p + 1), p⟩]) else (9, p, ts)
theorem lex_sign (g : Nat) (s : ByteArray) (p : Int) (ts : List Tok) (w0 w : World) (hT : TB w0) (h : LX w0 w g s p ts) (h0 : 0 ≤ p) (h1 : p < (s.size : Int)) (hs : s.size ≤ 100000) (hl : ts.length ≤ 1000000) :
    Calls Tryd.prog 34 #[.pointer (some ⟨g, 0, none⟩)] w fun e w' => e = .returned (.int .i64 (signE s p ts).1) ∧ LX w0 w' g s (signE s p ts).2.1 (signE s p ts).2.2 := by
  unfold signE
  by_cases h2 : p + 2 ≤ (s.size : Int) ∧ twoB (cut s p (p + 2)) = true
  · rw [if_pos (by simpa using h2)]
    exact lex_sign_two g s p ts w0 w hT h h0 h2.1 hs hl h2.2
  · rw [if_neg (by simpa using h2)]
    have h3 : p + 2 ≤ (s.size : Int) → twoB (cut s p (p + 2)) = false := fun h => by
      cases ht : twoB (cut s p (p + 2)) with
      | true => exact absurd ⟨h, ht⟩ h2
      | false => rfl
    by_cases h4 : 0 ≤ oneI (bt s p)
    · rw [if_pos (by simpa using h4)]
      exact lex_sign_one g s p ts w0 w hT h h0 h1 hs hl h3 h4
    · rw [if_neg (by simpa using h4)]
      exact lex_sign_bad g s p ts w0 w hT h h0 h1 hs h3 (by omega)
theorem lex_slash (g : Nat) (s : ByteArray) (p : Int) (ts : List Tok) (w0 w : World) (hl : ts.length ≤ 1000000) (h : LX w0 w g s p ts) :
    Calls Tryd.prog 32 #[.pointer (some ⟨g, 0, none⟩)] w fun e w' => e = .returned (.bool (slashB ts)) ∧ LX w0 w' g s p ts := by
  rcases List.eq_nil_or_concat ts with rfl | ⟨l, t, rfl⟩
  · exact lex_slash_nil g s p w0 w h
  · rw [List.concat_eq_append] at *
    rw [show slashB (l ++ [t]) = slashT t by simp [slashB]]
    exact lex_slash_snoc g s p l t w0 w (by simp at hl; omega) h
def nextE (s : ByteArray) (p : Int) (ts : List Tok) : Int × Int × List Tok :=
  if bt s p == 32 || (bt s p == 9 || bt s p == 13) then (0, p + 1, ts)
  else if bt s p == 35 then (0, runTo nnl s s.size p, ts)
  else if bt s p == 92 && bt s (p + 1) == 10 then (0, p + 2, ts)
  else if bt s p == 10 then (0, p + 1, ts ++ [⟨1, ⟨#[]⟩, p⟩])
  else if dgt (bt s p) || (bt s p == 46 && dgt (bt s (p + 1))) then (0, numE s p, ts ++ [⟨2, cut s p (numE s p), p⟩])
  else if ltr (bt s p) then (0, wordE s p, ts ++ [⟨wordK s (wordE s p) (cut s p (wordE s p)), cut s p (wordE s p), p⟩])
  else if bt s p == 34 then (errQ (quoteL howS s 34 p (s.size + 1) (p + 1) []).1, (quoteL howS s 34 p (s.size + 1) (p + 1) []).2.1, tsQ (quoteL howS s 34 p (s.size + 1) (p + 1) []) 3 p ts)
  else if bt s p == 47 && slashB ts then (errQ (quoteL howR s 47 p (s.size + 1) (p + 1) []).1, (quoteL howR s 47 p (s.size + 1) (p + 1) []).2.1, tsQ (quoteL howR s 47 p (s.size + 1) (p + 1) []) 4 p ts)
  else signE s p ts
set_option maxHeartbeats 4000000 in
set_option maxRecDepth 100000 in
theorem lex_next_sp (g : Nat) (s : ByteArray) (p : Int) (ts : List Tok) (w0 w : World) (h : LX w0 w g s p ts) (h0 : 0 ≤ p) (h1 : p < (s.size : Int)) (hs : s.size ≤ 100000) (hv : bt s p = 32) :
    Calls Tryd.prog 17 #[.pointer (some ⟨g, 0, none⟩)] w fun e w' => e = .returned (.int .i64 (nextE s p ts).1) ∧ LX w0 w' g s (nextE s p ts).2.1 (nextE s p ts).2.2 := by
  have hu := Tryd.underlying43
  have HL := Lib.hid h
  obtain ⟨v, hb, _⟩ := h.ex
  have c0 : w.cell? ⟨g, 0, none⟩ = some (.string s) := (blk_cell hb 0).trans rfl
  have c1 : w.cell? ⟨g, 1, none⟩ = some (.int .i64 p) := (blk_cell hb 1).trans rfl
  have f1 := blk_frozen hb 1
  clear hb h
  have b32 : (bt s p == 32) = true := by rw [hv]; rfl
  have b9 : (bt s p == 9) = false := by rw [hv]; rfl
  have b13 : (bt s p == 13) = false := by rw [hv]; rfl
  have b35 : (bt s p == 35) = false := by rw [hv]; rfl
  have b92 : (bt s p == 92) = false := by rw [hv]; rfl
  have b10 : (bt s p == 10) = false := by rw [hv]; rfl
  have b46 : (bt s p == 46) = false := by rw [hv]; rfl
  have b34 : (bt s p == 34) = false := by rw [hv]; rfl
  have b47 : (bt s p == 47) = false := by rw [hv]; rfl
  have hd : dgt (bt s p) = false := by rw [hv]; rfl
  have hlt : ltr (bt s p) = false := by rw [hv]; rfl
  clear hv
  have hN := Lib.hid (show nextE s p ts = nextE s p ts from rfl)
  have hw1 : IntKind.i64.wrap (p + 1) = p + 1 := IntWalk.i64_in _ (by omega)
  have hw2 : IntKind.i64.wrap (p + 2) = p + 2 := IntWalk.i64_in _ (by omega)
  have hbt := bt_at s p (by omega)
  have hE : ∃ X, nextE s p ts = X := ⟨_, rfl⟩
  obtain ⟨X, hX⟩ := hE
  rw [hX]
  simp only [nextE, b32, b9, b13, b35, b92, b10, b46, b34, b47, hd, hlt, Bool.true_or, Bool.or_true, Bool.false_or, Bool.or_false, Bool.true_and, Bool.and_true, Bool.false_and, Bool.and_false, if_true, if_false, Bool.false_eq_true, ↓reduceIte] at hX
  clear hN
  subst hX
  go_enter Tryd.func17, Tryd.ntmps17
  go_wp2
  go_quiet (fail)
  go_wp2_with fail
  go_ret
  exact ⟨rfl, LX.goto (by first | exact HL4.out | exact HL2.out | (repeat (first | exact HL.out | apply LX.drewN | apply LX.drew))) _⟩
set_option maxHeartbeats 4000000 in
set_option maxRecDepth 100000 in
theorem lex_next_tab (g : Nat) (s : ByteArray) (p : Int) (ts : List Tok) (w0 w : World) (h : LX w0 w g s p ts) (h0 : 0 ≤ p) (h1 : p < (s.size : Int)) (hs : s.size ≤ 100000) (hv : bt s p = 9) :
    Calls Tryd.prog 17 #[.pointer (some ⟨g, 0, none⟩)] w fun e w' => e = .returned (.int .i64 (nextE s p ts).1) ∧ LX w0 w' g s (nextE s p ts).2.1 (nextE s p ts).2.2 := by
  have hu := Tryd.underlying43
  have HL := Lib.hid h
  obtain ⟨v, hb, _⟩ := h.ex
  have c0 : w.cell? ⟨g, 0, none⟩ = some (.string s) := (blk_cell hb 0).trans rfl
  have c1 : w.cell? ⟨g, 1, none⟩ = some (.int .i64 p) := (blk_cell hb 1).trans rfl
  have f1 := blk_frozen hb 1
  clear hb h
  have b32 : (bt s p == 32) = false := by rw [hv]; rfl
  have b9 : (bt s p == 9) = true := by rw [hv]; rfl
  have b13 : (bt s p == 13) = false := by rw [hv]; rfl
  have b35 : (bt s p == 35) = false := by rw [hv]; rfl
  have b92 : (bt s p == 92) = false := by rw [hv]; rfl
  have b10 : (bt s p == 10) = false := by rw [hv]; rfl
  have b46 : (bt s p == 46) = false := by rw [hv]; rfl
  have b34 : (bt s p == 34) = false := by rw [hv]; rfl
  have b47 : (bt s p == 47) = false := by rw [hv]; rfl
  have hd : dgt (bt s p) = false := by rw [hv]; rfl
  have hlt : ltr (bt s p) = false := by rw [hv]; rfl
  clear hv
  have hN := Lib.hid (show nextE s p ts = nextE s p ts from rfl)
  have hw1 : IntKind.i64.wrap (p + 1) = p + 1 := IntWalk.i64_in _ (by omega)
  have hw2 : IntKind.i64.wrap (p + 2) = p + 2 := IntWalk.i64_in _ (by omega)
  have hbt := bt_at s p (by omega)
  have hE : ∃ X, nextE s p ts = X := ⟨_, rfl⟩
  obtain ⟨X, hX⟩ := hE
  rw [hX]
  simp only [nextE, b32, b9, b13, b35, b92, b10, b46, b34, b47, hd, hlt, Bool.true_or, Bool.or_true, Bool.false_or, Bool.or_false, Bool.true_and, Bool.and_true, Bool.false_and, Bool.and_false, if_true, if_false, Bool.false_eq_true, ↓reduceIte] at hX
  clear hN
  subst hX
  go_enter Tryd.func17, Tryd.ntmps17
  go_wp2
  go_quiet (fail)
  go_wp2_with fail
  go_ret
  exact ⟨rfl, LX.goto (by first | exact HL4.out | exact HL2.out | (repeat (first | exact HL.out | apply LX.drewN | apply LX.drew))) _⟩
set_option maxHeartbeats 4000000 in
set_option maxRecDepth 100000 in
theorem lex_next_cr (g : Nat) (s : ByteArray) (p : Int) (ts : List Tok) (w0 w : World) (h : LX w0 w g s p ts) (h0 : 0 ≤ p) (h1 : p < (s.size : Int)) (hs : s.size ≤ 100000) (hv : bt s p = 13) :
    Calls Tryd.prog 17 #[.pointer (some ⟨g, 0, none⟩)] w fun e w' => e = .returned (.int .i64 (nextE s p ts).1) ∧ LX w0 w' g s (nextE s p ts).2.1 (nextE s p ts).2.2 := by
  have hu := Tryd.underlying43
  have HL := Lib.hid h
  obtain ⟨v, hb, _⟩ := h.ex
  have c0 : w.cell? ⟨g, 0, none⟩ = some (.string s) := (blk_cell hb 0).trans rfl
  have c1 : w.cell? ⟨g, 1, none⟩ = some (.int .i64 p) := (blk_cell hb 1).trans rfl
  have f1 := blk_frozen hb 1
  clear hb h
  have b32 : (bt s p == 32) = false := by rw [hv]; rfl
  have b9 : (bt s p == 9) = false := by rw [hv]; rfl
  have b13 : (bt s p == 13) = true := by rw [hv]; rfl
  have b35 : (bt s p == 35) = false := by rw [hv]; rfl
  have b92 : (bt s p == 92) = false := by rw [hv]; rfl
  have b10 : (bt s p == 10) = false := by rw [hv]; rfl
  have b46 : (bt s p == 46) = false := by rw [hv]; rfl
  have b34 : (bt s p == 34) = false := by rw [hv]; rfl
  have b47 : (bt s p == 47) = false := by rw [hv]; rfl
  have hd : dgt (bt s p) = false := by rw [hv]; rfl
  have hlt : ltr (bt s p) = false := by rw [hv]; rfl
  clear hv
  have hN := Lib.hid (show nextE s p ts = nextE s p ts from rfl)
  have hw1 : IntKind.i64.wrap (p + 1) = p + 1 := IntWalk.i64_in _ (by omega)
  have hw2 : IntKind.i64.wrap (p + 2) = p + 2 := IntWalk.i64_in _ (by omega)
  have hbt := bt_at s p (by omega)
  have hE : ∃ X, nextE s p ts = X := ⟨_, rfl⟩
  obtain ⟨X, hX⟩ := hE
  rw [hX]
  simp only [nextE, b32, b9, b13, b35, b92, b10, b46, b34, b47, hd, hlt, Bool.true_or, Bool.or_true, Bool.false_or, Bool.or_false, Bool.true_and, Bool.and_true, Bool.false_and, Bool.and_false, if_true, if_false, Bool.false_eq_true, ↓reduceIte] at hX
  clear hN
  subst hX
  go_enter Tryd.func17, Tryd.ntmps17
  go_wp2
  go_quiet (fail)
  go_wp2_with fail
  go_ret
  exact ⟨rfl, LX.goto (by first | exact HL4.out | exact HL2.out | (repeat (first | exact HL.out | apply LX.drewN | apply LX.drew))) _⟩
set_option maxHeartbeats 4000000 in
set_option maxRecDepth 100000 in
theorem lex_next_hash (g : Nat) (s : ByteArray) (p : Int) (ts : List Tok) (w0 w : World) (h : LX w0 w g s p ts) (h0 : 0 ≤ p) (h1 : p < (s.size : Int)) (hs : s.size ≤ 100000) (hv : bt s p = 35) :
    Calls Tryd.prog 17 #[.pointer (some ⟨g, 0, none⟩)] w fun e w' => e = .returned (.int .i64 (nextE s p ts).1) ∧ LX w0 w' g s (nextE s p ts).2.1 (nextE s p ts).2.2 := by
  have hu := Tryd.underlying43
  have HL := Lib.hid h
  obtain ⟨v, hb, _⟩ := h.ex
  have c0 : w.cell? ⟨g, 0, none⟩ = some (.string s) := (blk_cell hb 0).trans rfl
  have c1 : w.cell? ⟨g, 1, none⟩ = some (.int .i64 p) := (blk_cell hb 1).trans rfl
  have f1 := blk_frozen hb 1
  clear hb h
  have b32 : (bt s p == 32) = false := by rw [hv]; rfl
  have b9 : (bt s p == 9) = false := by rw [hv]; rfl
  have b13 : (bt s p == 13) = false := by rw [hv]; rfl
  have b35 : (bt s p == 35) = true := by rw [hv]; rfl
  have b92 : (bt s p == 92) = false := by rw [hv]; rfl
  have b10 : (bt s p == 10) = false := by rw [hv]; rfl
  have b46 : (bt s p == 46) = false := by rw [hv]; rfl
  have b34 : (bt s p == 34) = false := by rw [hv]; rfl
  have b47 : (bt s p == 47) = false := by rw [hv]; rfl
  have hd : dgt (bt s p) = false := by rw [hv]; rfl
  have hlt : ltr (bt s p) = false := by rw [hv]; rfl
  clear hv
  have hN := Lib.hid (show nextE s p ts = nextE s p ts from rfl)
  have hw1 : IntKind.i64.wrap (p + 1) = p + 1 := IntWalk.i64_in _ (by omega)
  have hw2 : IntKind.i64.wrap (p + 2) = p + 2 := IntWalk.i64_in _ (by omega)
  have hbt := bt_at s p (by omega)
  have hE : ∃ X, nextE s p ts = X := ⟨_, rfl⟩
  obtain ⟨X, hX⟩ := hE
  rw [hX]
  simp only [nextE, b32, b9, b13, b35, b92, b10, b46, b34, b47, hd, hlt, Bool.true_or, Bool.or_true, Bool.false_or, Bool.or_false, Bool.true_and, Bool.and_true, Bool.false_and, Bool.and_false, if_true, if_false, Bool.false_eq_true, ↓reduceIte] at hX
  clear hN
  subst hX
  go_enter Tryd.func17, Tryd.ntmps17
  go_wp2
  go_quiet (fail)
  go_wp2_with (first | (go_at_call 23; (with_reducible refine (lex_while_line g s p ts w0 _ (by first | exact HL4.out | exact HL2.out | (repeat (first | exact HL.out | apply LX.drewN | apply LX.drew))) h0 (by omega) (by omega)).mono ?_); rintro e w5 ⟨rfl, hL5⟩; have HL5 := Lib.hid hL5; clear hL5))
  go_ret
  exact ⟨rfl, HL5.out⟩
set_option maxHeartbeats 4000000 in
set_option maxRecDepth 100000 in
theorem lex_next_back (g : Nat) (s : ByteArray) (p : Int) (ts : List Tok) (w0 w : World) (h : LX w0 w g s p ts) (h0 : 0 ≤ p) (h1 : p < (s.size : Int)) (hs : s.size ≤ 100000) (hv : bt s p = 92) (hn : bt s (p + 1) = 10) :
    Calls Tryd.prog 17 #[.pointer (some ⟨g, 0, none⟩)] w fun e w' => e = .returned (.int .i64 (nextE s p ts).1) ∧ LX w0 w' g s (nextE s p ts).2.1 (nextE s p ts).2.2 := by
  have hu := Tryd.underlying43
  have HL := Lib.hid h
  obtain ⟨v, hb, _⟩ := h.ex
  have c0 : w.cell? ⟨g, 0, none⟩ = some (.string s) := (blk_cell hb 0).trans rfl
  have c1 : w.cell? ⟨g, 1, none⟩ = some (.int .i64 p) := (blk_cell hb 1).trans rfl
  have f1 := blk_frozen hb 1
  clear hb h
  have b32 : (bt s p == 32) = false := by rw [hv]; rfl
  have b9 : (bt s p == 9) = false := by rw [hv]; rfl
  have b13 : (bt s p == 13) = false := by rw [hv]; rfl
  have b35 : (bt s p == 35) = false := by rw [hv]; rfl
  have b92 : (bt s p == 92) = true := by rw [hv]; rfl
  have b10 : (bt s p == 10) = false := by rw [hv]; rfl
  have b46 : (bt s p == 46) = false := by rw [hv]; rfl
  have b34 : (bt s p == 34) = false := by rw [hv]; rfl
  have b47 : (bt s p == 47) = false := by rw [hv]; rfl
  have hd : dgt (bt s p) = false := by rw [hv]; rfl
  have hlt : ltr (bt s p) = false := by rw [hv]; rfl
  clear hv
  have bn : (bt s (p + 1) == 10) = true := by rw [hn]; rfl
  clear hn
  have hN := Lib.hid (show nextE s p ts = nextE s p ts from rfl)
  have hw1 : IntKind.i64.wrap (p + 1) = p + 1 := IntWalk.i64_in _ (by omega)
  have hw2 : IntKind.i64.wrap (p + 2) = p + 2 := IntWalk.i64_in _ (by omega)
  have hbt := bt_at s p (by omega)
  have hE : ∃ X, nextE s p ts = X := ⟨_, rfl⟩
  obtain ⟨X, hX⟩ := hE
  rw [hX]
  simp only [nextE, b32, b9, b13, b35, b92, b10, b46, b34, b47, hd, hlt, bn, Bool.true_or, Bool.or_true, Bool.false_or, Bool.or_false, Bool.true_and, Bool.and_true, Bool.false_and, Bool.and_false, if_true, if_false, Bool.false_eq_true, ↓reduceIte] at hX
  clear hN
  subst hX
  go_enter Tryd.func17, Tryd.ntmps17
  go_wp2
  go_quiet (fail)
  go_wp2_with (first | (go_at_call 25; (with_reducible refine (lex_peek g s p 1 ts w0 _ (by repeat (first | exact HL.out | apply LX.drewN | apply LX.drew)) h0 (by omega) (by omega) (by omega)).mono ?_); rintro e w2 ⟨rfl, hL2⟩; have HL2 := Lib.hid hL2; obtain ⟨v2, hb2, _⟩ := HL2.out.ex; have z0 : w2.cell? ⟨g, 0, none⟩ = some (.string s) := (blk_cell hb2 0).trans rfl; have z1 : w2.cell? ⟨g, 1, none⟩ = some (.int .i64 p) := (blk_cell hb2 1).trans rfl; have zf := blk_frozen hb2 1; clear hb2 hL2 c0 c1 f1))
  go_ret
  exact ⟨rfl, LX.goto (by first | exact HL4.out | exact HL2.out | (repeat (first | exact HL.out | apply LX.drewN | apply LX.drew))) _⟩
set_option maxHeartbeats 4000000 in
set_option maxRecDepth 100000 in
theorem lex_next_nl (g : Nat) (s : ByteArray) (p : Int) (ts : List Tok) (w0 w : World) (h : LX w0 w g s p ts) (h0 : 0 ≤ p) (h1 : p < (s.size : Int)) (hs : s.size ≤ 100000) (hl : ts.length ≤ 1000000) (hv : bt s p = 10) :
    Calls Tryd.prog 17 #[.pointer (some ⟨g, 0, none⟩)] w fun e w' => e = .returned (.int .i64 (nextE s p ts).1) ∧ LX w0 w' g s (nextE s p ts).2.1 (nextE s p ts).2.2 := by
  have hu := Tryd.underlying43
  have HL := Lib.hid h
  obtain ⟨v, hb, _⟩ := h.ex
  have c0 : w.cell? ⟨g, 0, none⟩ = some (.string s) := (blk_cell hb 0).trans rfl
  have c1 : w.cell? ⟨g, 1, none⟩ = some (.int .i64 p) := (blk_cell hb 1).trans rfl
  have f1 := blk_frozen hb 1
  clear hb h
  have b32 : (bt s p == 32) = false := by rw [hv]; rfl
  have b9 : (bt s p == 9) = false := by rw [hv]; rfl
  have b13 : (bt s p == 13) = false := by rw [hv]; rfl
  have b35 : (bt s p == 35) = false := by rw [hv]; rfl
  have b92 : (bt s p == 92) = false := by rw [hv]; rfl
  have b10 : (bt s p == 10) = true := by rw [hv]; rfl
  have b46 : (bt s p == 46) = false := by rw [hv]; rfl
  have b34 : (bt s p == 34) = false := by rw [hv]; rfl
  have b47 : (bt s p == 47) = false := by rw [hv]; rfl
  have hd : dgt (bt s p) = false := by rw [hv]; rfl
  have hlt : ltr (bt s p) = false := by rw [hv]; rfl
  clear hv
  have hN := Lib.hid (show nextE s p ts = nextE s p ts from rfl)
  have hw1 : IntKind.i64.wrap (p + 1) = p + 1 := IntWalk.i64_in _ (by omega)
  have hw2 : IntKind.i64.wrap (p + 2) = p + 2 := IntWalk.i64_in _ (by omega)
  have hbt := bt_at s p (by omega)
  have hE : ∃ X, nextE s p ts = X := ⟨_, rfl⟩
  obtain ⟨X, hX⟩ := hE
  rw [hX]
  simp only [nextE, b32, b9, b13, b35, b92, b10, b46, b34, b47, hd, hlt, Bool.true_or, Bool.or_true, Bool.false_or, Bool.or_false, Bool.true_and, Bool.and_true, Bool.false_and, Bool.and_false, if_true, if_false, Bool.false_eq_true, ↓reduceIte] at hX
  clear hN
  subst hX
  go_enter Tryd.func17, Tryd.ntmps17
  go_wp2
  go_quiet (fail)
  go_wp2_with (first | (go_at_call 18; (with_reducible refine (lex_put g s p ts ⟨1, ⟨#[]⟩, p⟩ w0 _ (by first | exact HL4.out | exact HL2.out | (repeat (first | exact HL.out | apply LX.drewN | apply LX.drew))) hl).mono ?_); rintro e w5 ⟨rfl, hL5⟩; have HL5 := Lib.hid hL5; obtain ⟨v5, hb5, _⟩ := HL5.out.ex; have y1 : w5.cell? ⟨g, 1, none⟩ = some (.int .i64 p) := (blk_cell hb5 1).trans rfl; have yf := blk_frozen hb5 1; clear hb5 hL5))
  go_ret
  exact ⟨rfl, LX.goto HL5.out _⟩
set_option maxHeartbeats 4000000 in
set_option maxRecDepth 100000 in
theorem lex_next_dig (g : Nat) (s : ByteArray) (p : Int) (ts : List Tok) (w0 w : World) (h : LX w0 w g s p ts) (h0 : 0 ≤ p) (h1 : p < (s.size : Int)) (hs : s.size ≤ 100000) (hl : ts.length ≤ 1000000) (hd : dgt (bt s p) = true) :
    Calls Tryd.prog 17 #[.pointer (some ⟨g, 0, none⟩)] w fun e w' => e = .returned (.int .i64 (nextE s p ts).1) ∧ LX w0 w' g s (nextE s p ts).2.1 (nextE s p ts).2.2 := by
  have hu := Tryd.underlying43
  have HL := Lib.hid h
  obtain ⟨v, hb, _⟩ := h.ex
  have c0 : w.cell? ⟨g, 0, none⟩ = some (.string s) := (blk_cell hb 0).trans rfl
  have c1 : w.cell? ⟨g, 1, none⟩ = some (.int .i64 p) := (blk_cell hb 1).trans rfl
  have f1 := blk_frozen hb 1
  clear hb h
  have hr : 48 ≤ bt s p ∧ bt s p ≤ 57 := by simpa [dgt] using hd
  have b32 : (bt s p == 32) = false := by simp; omega
  have b9 : (bt s p == 9) = false := by simp; omega
  have b13 : (bt s p == 13) = false := by simp; omega
  have b35 : (bt s p == 35) = false := by simp; omega
  have b92 : (bt s p == 92) = false := by simp; omega
  have b10 : (bt s p == 10) = false := by simp; omega
  have b46 : (bt s p == 46) = false := by simp; omega
  have b34 : (bt s p == 34) = false := by simp; omega
  have b47 : (bt s p == 47) = false := by simp; omega
  clear hr
  have hN := Lib.hid (show nextE s p ts = nextE s p ts from rfl)
  have hw1 : IntKind.i64.wrap (p + 1) = p + 1 := IntWalk.i64_in _ (by omega)
  have hw2 : IntKind.i64.wrap (p + 2) = p + 2 := IntWalk.i64_in _ (by omega)
  have hbt := bt_at s p (by omega)
  have hE : ∃ X, nextE s p ts = X := ⟨_, rfl⟩
  obtain ⟨X, hX⟩ := hE
  rw [hX]
  simp only [nextE, b32, b9, b13, b35, b92, b10, b46, b34, b47, hd, Bool.true_or, Bool.or_true, Bool.false_or, Bool.or_false, Bool.true_and, Bool.and_true, Bool.false_and, Bool.and_false, if_true, if_false, Bool.false_eq_true, ↓reduceIte] at hX
  clear hN
  subst hX
  go_enter Tryd.func17, Tryd.ntmps17
  go_wp2
  go_quiet (fail)
  go_wp2_with (first | (go_at_call 26; (with_reducible refine (lex_digit_any _ _).mono ?_); rintro e w9 ⟨rfl, rfl⟩) | (go_at_call 27; (with_reducible refine (lex_number g s p ts w0 _ (by first | exact HL4.out | exact HL2.out | (repeat (first | exact HL.out | apply LX.drewN | apply LX.drew))) h0 (by omega) hs hl).mono ?_); rintro e w5 ⟨rfl, hL5⟩; have HL5 := Lib.hid hL5; clear hL5))
  go_ret
  exact ⟨rfl, HL5.out⟩
set_option maxHeartbeats 4000000 in
set_option maxRecDepth 100000 in
theorem lex_next_dot (g : Nat) (s : ByteArray) (p : Int) (ts : List Tok) (w0 w : World) (h : LX w0 w g s p ts) (h0 : 0 ≤ p) (h1 : p < (s.size : Int)) (hs : s.size ≤ 100000) (hl : ts.length ≤ 1000000) (hv : bt s p = 46) (hn : dgt (bt s (p + 1)) = true) :
    Calls Tryd.prog 17 #[.pointer (some ⟨g, 0, none⟩)] w fun e w' => e = .returned (.int .i64 (nextE s p ts).1) ∧ LX w0 w' g s (nextE s p ts).2.1 (nextE s p ts).2.2 := by
  have hu := Tryd.underlying43
  have HL := Lib.hid h
  obtain ⟨v, hb, _⟩ := h.ex
  have c0 : w.cell? ⟨g, 0, none⟩ = some (.string s) := (blk_cell hb 0).trans rfl
  have c1 : w.cell? ⟨g, 1, none⟩ = some (.int .i64 p) := (blk_cell hb 1).trans rfl
  have f1 := blk_frozen hb 1
  clear hb h
  have b32 : (bt s p == 32) = false := by rw [hv]; rfl
  have b9 : (bt s p == 9) = false := by rw [hv]; rfl
  have b13 : (bt s p == 13) = false := by rw [hv]; rfl
  have b35 : (bt s p == 35) = false := by rw [hv]; rfl
  have b92 : (bt s p == 92) = false := by rw [hv]; rfl
  have b10 : (bt s p == 10) = false := by rw [hv]; rfl
  have b46 : (bt s p == 46) = true := by rw [hv]; rfl
  have b34 : (bt s p == 34) = false := by rw [hv]; rfl
  have b47 : (bt s p == 47) = false := by rw [hv]; rfl
  have hd : dgt (bt s p) = false := by rw [hv]; rfl
  have hlt : ltr (bt s p) = false := by rw [hv]; rfl
  clear hv
  have hN := Lib.hid (show nextE s p ts = nextE s p ts from rfl)
  have hw1 : IntKind.i64.wrap (p + 1) = p + 1 := IntWalk.i64_in _ (by omega)
  have hw2 : IntKind.i64.wrap (p + 2) = p + 2 := IntWalk.i64_in _ (by omega)
  have hbt := bt_at s p (by omega)
  have hE : ∃ X, nextE s p ts = X := ⟨_, rfl⟩
  obtain ⟨X, hX⟩ := hE
  rw [hX]
  simp only [nextE, b32, b9, b13, b35, b92, b10, b46, b34, b47, hd, hlt, hn, Bool.true_or, Bool.or_true, Bool.false_or, Bool.or_false, Bool.true_and, Bool.and_true, Bool.false_and, Bool.and_false, if_true, if_false, Bool.false_eq_true, ↓reduceIte] at hX
  clear hN
  subst hX
  go_enter Tryd.func17, Tryd.ntmps17
  go_wp2
  go_quiet (fail)
  go_wp2_with (first | (go_at_call 25; (with_reducible refine (lex_peek g s p 1 ts w0 _ (by repeat (first | exact HL.out | apply LX.drewN | apply LX.drew)) h0 (by omega) (by omega) (by omega)).mono ?_); rintro e w2 ⟨rfl, hL2⟩; have HL2 := Lib.hid hL2; obtain ⟨v2, hb2, _⟩ := HL2.out.ex; have z0 : w2.cell? ⟨g, 0, none⟩ = some (.string s) := (blk_cell hb2 0).trans rfl; have z1 : w2.cell? ⟨g, 1, none⟩ = some (.int .i64 p) := (blk_cell hb2 1).trans rfl; have zf := blk_frozen hb2 1; clear hb2 hL2 c0 c1 f1) | (go_at_call 26; (with_reducible refine (lex_digit_any _ _).mono ?_); rintro e w9 ⟨rfl, rfl⟩) | (go_at_call 27; (with_reducible refine (lex_number g s p ts w0 _ (by first | exact HL4.out | exact HL2.out | (repeat (first | exact HL.out | apply LX.drewN | apply LX.drew))) h0 (by omega) hs hl).mono ?_); rintro e w5 ⟨rfl, hL5⟩; have HL5 := Lib.hid hL5; clear hL5))
  go_ret
  exact ⟨rfl, HL5.out⟩
set_option maxHeartbeats 4000000 in
set_option maxRecDepth 100000 in
theorem lex_next_let (g : Nat) (s : ByteArray) (p : Int) (ts : List Tok) (w0 w : World) (hT : TB w0) (h : LX w0 w g s p ts) (h0 : 0 ≤ p) (h1 : p < (s.size : Int)) (hs : s.size ≤ 100000) (hl : ts.length ≤ 1000000) (hlt : ltr (bt s p) = true) :
    Calls Tryd.prog 17 #[.pointer (some ⟨g, 0, none⟩)] w fun e w' => e = .returned (.int .i64 (nextE s p ts).1) ∧ LX w0 w' g s (nextE s p ts).2.1 (nextE s p ts).2.2 := by
  have hu := Tryd.underlying43
  have HL := Lib.hid h
  obtain ⟨v, hb, _⟩ := h.ex
  have c0 : w.cell? ⟨g, 0, none⟩ = some (.string s) := (blk_cell hb 0).trans rfl
  have c1 : w.cell? ⟨g, 1, none⟩ = some (.int .i64 p) := (blk_cell hb 1).trans rfl
  have f1 := blk_frozen hb 1
  clear hb h
  have hr : (97 ≤ bt s p ∧ bt s p ≤ 122) ∨ (65 ≤ bt s p ∧ bt s p ≤ 90) ∨ bt s p = 95 := by simpa [ltr] using hlt
  have b32 : (bt s p == 32) = false := by simp; omega
  have b9 : (bt s p == 9) = false := by simp; omega
  have b13 : (bt s p == 13) = false := by simp; omega
  have b35 : (bt s p == 35) = false := by simp; omega
  have b92 : (bt s p == 92) = false := by simp; omega
  have b10 : (bt s p == 10) = false := by simp; omega
  have b46 : (bt s p == 46) = false := by simp; omega
  have b34 : (bt s p == 34) = false := by simp; omega
  have b47 : (bt s p == 47) = false := by simp; omega
  have hd : dgt (bt s p) = false := by unfold dgt; simp; omega
  clear hr
  have hN := Lib.hid (show nextE s p ts = nextE s p ts from rfl)
  have hw1 : IntKind.i64.wrap (p + 1) = p + 1 := IntWalk.i64_in _ (by omega)
  have hw2 : IntKind.i64.wrap (p + 2) = p + 2 := IntWalk.i64_in _ (by omega)
  have hbt := bt_at s p (by omega)
  have hE : ∃ X, nextE s p ts = X := ⟨_, rfl⟩
  obtain ⟨X, hX⟩ := hE
  rw [hX]
  simp only [nextE, b32, b9, b13, b35, b92, b10, b46, b34, b47, hd, hlt, Bool.true_or, Bool.or_true, Bool.false_or, Bool.or_false, Bool.true_and, Bool.and_true, Bool.false_and, Bool.and_false, if_true, if_false, Bool.false_eq_true, ↓reduceIte] at hX
  clear hN
  subst hX
  go_enter Tryd.func17, Tryd.ntmps17
  go_wp2
  go_quiet (fail)
  go_wp2_with (first | (go_at_call 26; (with_reducible refine (lex_digit_any _ _).mono ?_); rintro e w9 ⟨rfl, rfl⟩) | (go_at_call 28; (with_reducible refine (lex_letter_any _ _).mono ?_); rintro e w9 ⟨rfl, rfl⟩) | (go_at_call 29; (with_reducible refine (lex_word g s p ts w0 _ hT (by first | exact HL4.out | exact HL2.out | (repeat (first | exact HL.out | apply LX.drewN | apply LX.drew))) h0 (by omega) hs hl).mono ?_); rintro e w5 ⟨rfl, hL5⟩; have HL5 := Lib.hid hL5; clear hL5))
  go_ret
  exact ⟨rfl, HL5.out⟩
set_option maxHeartbeats 4000000 in
set_option maxRecDepth 100000 in
theorem lex_next_str (g : Nat) (s : ByteArray) (p : Int) (ts : List Tok) (w0 w : World) (hT : TB w0) (h : LX w0 w g s p ts) (h0 : 0 ≤ p) (h1 : p < (s.size : Int)) (hs : s.size ≤ 100000) (hl : ts.length ≤ 1000000) (hv : bt s p = 34) :
    Calls Tryd.prog 17 #[.pointer (some ⟨g, 0, none⟩)] w fun e w' => e = .returned (.int .i64 (nextE s p ts).1) ∧ LX w0 w' g s (nextE s p ts).2.1 (nextE s p ts).2.2 := by
  have hu := Tryd.underlying43
  have HL := Lib.hid h
  obtain ⟨v, hb, _⟩ := h.ex
  have c0 : w.cell? ⟨g, 0, none⟩ = some (.string s) := (blk_cell hb 0).trans rfl
  have c1 : w.cell? ⟨g, 1, none⟩ = some (.int .i64 p) := (blk_cell hb 1).trans rfl
  have f1 := blk_frozen hb 1
  clear hb h
  have b32 : (bt s p == 32) = false := by rw [hv]; rfl
  have b9 : (bt s p == 9) = false := by rw [hv]; rfl
  have b13 : (bt s p == 13) = false := by rw [hv]; rfl
  have b35 : (bt s p == 35) = false := by rw [hv]; rfl
  have b92 : (bt s p == 92) = false := by rw [hv]; rfl
  have b10 : (bt s p == 10) = false := by rw [hv]; rfl
  have b46 : (bt s p == 46) = false := by rw [hv]; rfl
  have b34 : (bt s p == 34) = true := by rw [hv]; rfl
  have b47 : (bt s p == 47) = false := by rw [hv]; rfl
  have hd : dgt (bt s p) = false := by rw [hv]; rfl
  have hlt : ltr (bt s p) = false := by rw [hv]; rfl
  clear hv
  have hN := Lib.hid (show nextE s p ts = nextE s p ts from rfl)
  have hw1 : IntKind.i64.wrap (p + 1) = p + 1 := IntWalk.i64_in _ (by omega)
  have hw2 : IntKind.i64.wrap (p + 2) = p + 2 := IntWalk.i64_in _ (by omega)
  have hbt := bt_at s p (by omega)
  have hE : ∃ X, nextE s p ts = X := ⟨_, rfl⟩
  obtain ⟨X, hX⟩ := hE
  rw [hX]
  simp only [nextE, b32, b9, b13, b35, b92, b10, b46, b34, b47, hd, hlt, Bool.true_or, Bool.or_true, Bool.false_or, Bool.or_false, Bool.true_and, Bool.and_true, Bool.false_and, Bool.and_false, if_true, if_false, Bool.false_eq_true, ↓reduceIte] at hX
  clear hN
  subst hX
  go_enter Tryd.func17, Tryd.ntmps17
  go_wp2
  go_quiet (fail)
  go_wp2_with (first | (go_at_call 26; (with_reducible refine (lex_digit_any _ _).mono ?_); rintro e w9 ⟨rfl, rfl⟩) | (go_at_call 28; (with_reducible refine (lex_letter_any _ _).mono ?_); rintro e w9 ⟨rfl, rfl⟩) | (go_at_call 30; (with_reducible refine (lex_quotedS g s p _ rfl ts w0 _ hT (by first | exact HL4.out | exact HL2.out | (repeat (first | exact HL.out | apply LX.drewN | apply LX.drew))) h0 h1 hs hl).mono ?_); rintro e w5 ⟨rfl, hL5⟩; have HL5 := Lib.hid hL5; clear hL5))
  go_ret
  exact ⟨rfl, HL5.out⟩
set_option maxHeartbeats 4000000 in
set_option maxRecDepth 100000 in
theorem lex_next_reg (g : Nat) (s : ByteArray) (p : Int) (ts : List Tok) (w0 w : World) (hT : TB w0) (h : LX w0 w g s p ts) (h0 : 0 ≤ p) (h1 : p < (s.size : Int)) (hs : s.size ≤ 100000) (hl : ts.length ≤ 1000000) (hv : bt s p = 47) (hn : slashB ts = true) :
    Calls Tryd.prog 17 #[.pointer (some ⟨g, 0, none⟩)] w fun e w' => e = .returned (.int .i64 (nextE s p ts).1) ∧ LX w0 w' g s (nextE s p ts).2.1 (nextE s p ts).2.2 := by
  have hu := Tryd.underlying43
  have HL := Lib.hid h
  obtain ⟨v, hb, _⟩ := h.ex
  have c0 : w.cell? ⟨g, 0, none⟩ = some (.string s) := (blk_cell hb 0).trans rfl
  have c1 : w.cell? ⟨g, 1, none⟩ = some (.int .i64 p) := (blk_cell hb 1).trans rfl
  have f1 := blk_frozen hb 1
  clear hb h
  have b32 : (bt s p == 32) = false := by rw [hv]; rfl
  have b9 : (bt s p == 9) = false := by rw [hv]; rfl
  have b13 : (bt s p == 13) = false := by rw [hv]; rfl
  have b35 : (bt s p == 35) = false := by rw [hv]; rfl
  have b92 : (bt s p == 92) = false := by rw [hv]; rfl
  have b10 : (bt s p == 10) = false := by rw [hv]; rfl
  have b46 : (bt s p == 46) = false := by rw [hv]; rfl
  have b34 : (bt s p == 34) = false := by rw [hv]; rfl
  have b47 : (bt s p == 47) = true := by rw [hv]; rfl
  have hd : dgt (bt s p) = false := by rw [hv]; rfl
  have hlt : ltr (bt s p) = false := by rw [hv]; rfl
  clear hv
  have hN := Lib.hid (show nextE s p ts = nextE s p ts from rfl)
  have hw1 : IntKind.i64.wrap (p + 1) = p + 1 := IntWalk.i64_in _ (by omega)
  have hw2 : IntKind.i64.wrap (p + 2) = p + 2 := IntWalk.i64_in _ (by omega)
  have hbt := bt_at s p (by omega)
  have hE : ∃ X, nextE s p ts = X := ⟨_, rfl⟩
  obtain ⟨X, hX⟩ := hE
  rw [hX]
  simp only [nextE, b32, b9, b13, b35, b92, b10, b46, b34, b47, hd, hlt, hn, Bool.true_or, Bool.or_true, Bool.false_or, Bool.or_false, Bool.true_and, Bool.and_true, Bool.false_and, Bool.and_false, if_true, if_false, Bool.false_eq_true, ↓reduceIte] at hX
  clear hN
  subst hX
  go_enter Tryd.func17, Tryd.ntmps17
  go_wp2
  go_quiet (fail)
  go_wp2_with (first | (go_at_call 26; (with_reducible refine (lex_digit_any _ _).mono ?_); rintro e w9 ⟨rfl, rfl⟩) | (go_at_call 28; (with_reducible refine (lex_letter_any _ _).mono ?_); rintro e w9 ⟨rfl, rfl⟩) | (go_at_call 32; (with_reducible refine (lex_slash g s p ts w0 _ hl (by repeat (first | exact HL.out | apply LX.drewN | apply LX.drew))).mono ?_); rintro e w4 ⟨rfl, hL4⟩; have HL4 := Lib.hid hL4; clear hL4) | (go_at_call 30; (with_reducible refine (lex_quotedR g s p _ rfl ts w0 _ hT (by first | exact HL4.out | exact HL2.out | (repeat (first | exact HL.out | apply LX.drewN | apply LX.drew))) h0 h1 hs hl).mono ?_); rintro e w5 ⟨rfl, hL5⟩; have HL5 := Lib.hid hL5; clear hL5))
  go_ret
  exact ⟨rfl, HL5.out⟩
set_option maxHeartbeats 4000000 in
set_option maxRecDepth 100000 in
theorem lex_next_div (g : Nat) (s : ByteArray) (p : Int) (ts : List Tok) (w0 w : World) (hT : TB w0) (h : LX w0 w g s p ts) (h0 : 0 ≤ p) (h1 : p < (s.size : Int)) (hs : s.size ≤ 100000) (hl : ts.length ≤ 1000000) (hv : bt s p = 47) (hn : slashB ts = false) :
    Calls Tryd.prog 17 #[.pointer (some ⟨g, 0, none⟩)] w fun e w' => e = .returned (.int .i64 (nextE s p ts).1) ∧ LX w0 w' g s (nextE s p ts).2.1 (nextE s p ts).2.2 := by
  have hu := Tryd.underlying43
  have HL := Lib.hid h
  obtain ⟨v, hb, _⟩ := h.ex
  have c0 : w.cell? ⟨g, 0, none⟩ = some (.string s) := (blk_cell hb 0).trans rfl
  have c1 : w.cell? ⟨g, 1, none⟩ = some (.int .i64 p) := (blk_cell hb 1).trans rfl
  have f1 := blk_frozen hb 1
  clear hb h
  have b32 : (bt s p == 32) = false := by rw [hv]; rfl
  have b9 : (bt s p == 9) = false := by rw [hv]; rfl
  have b13 : (bt s p == 13) = false := by rw [hv]; rfl
  have b35 : (bt s p == 35) = false := by rw [hv]; rfl
  have b92 : (bt s p == 92) = false := by rw [hv]; rfl
  have b10 : (bt s p == 10) = false := by rw [hv]; rfl
  have b46 : (bt s p == 46) = false := by rw [hv]; rfl
  have b34 : (bt s p == 34) = false := by rw [hv]; rfl
  have b47 : (bt s p == 47) = true := by rw [hv]; rfl
  have hd : dgt (bt s p) = false := by rw [hv]; rfl
  have hlt : ltr (bt s p) = false := by rw [hv]; rfl
  clear hv
  have hN := Lib.hid (show nextE s p ts = nextE s p ts from rfl)
  have hw1 : IntKind.i64.wrap (p + 1) = p + 1 := IntWalk.i64_in _ (by omega)
  have hw2 : IntKind.i64.wrap (p + 2) = p + 2 := IntWalk.i64_in _ (by omega)
  have hbt := bt_at s p (by omega)
  have hE : ∃ X, nextE s p ts = X := ⟨_, rfl⟩
  obtain ⟨X, hX⟩ := hE
  rw [hX]
  simp only [nextE, b32, b9, b13, b35, b92, b10, b46, b34, b47, hd, hlt, hn, Bool.true_or, Bool.or_true, Bool.false_or, Bool.or_false, Bool.true_and, Bool.and_true, Bool.false_and, Bool.and_false, if_true, if_false, Bool.false_eq_true, ↓reduceIte] at hX
  clear hN
  subst hX
  go_enter Tryd.func17, Tryd.ntmps17
  go_wp2
  go_quiet (fail)
  go_wp2_with (first | (go_at_call 26; (with_reducible refine (lex_digit_any _ _).mono ?_); rintro e w9 ⟨rfl, rfl⟩) | (go_at_call 28; (with_reducible refine (lex_letter_any _ _).mono ?_); rintro e w9 ⟨rfl, rfl⟩) | (go_at_call 32; (with_reducible refine (lex_slash g s p ts w0 _ hl (by repeat (first | exact HL.out | apply LX.drewN | apply LX.drew))).mono ?_); rintro e w4 ⟨rfl, hL4⟩; have HL4 := Lib.hid hL4; clear hL4) | (go_at_call 34; (with_reducible refine (lex_sign g s p ts w0 _ hT (by first | exact HL4.out | exact HL2.out | (repeat (first | exact HL.out | apply LX.drewN | apply LX.drew))) h0 h1 hs hl).mono ?_); rintro e w5 ⟨rfl, hL5⟩; have HL5 := Lib.hid hL5; clear hL5))
  go_ret
  exact ⟨rfl, HL5.out⟩
set_option maxHeartbeats 4000000 in
set_option maxRecDepth 100000 in
theorem lex_next_backs (g : Nat) (s : ByteArray) (p : Int) (ts : List Tok) (w0 w : World) (hT : TB w0) (h : LX w0 w g s p ts) (h0 : 0 ≤ p) (h1 : p < (s.size : Int)) (hs : s.size ≤ 100000) (hl : ts.length ≤ 1000000) (hv : bt s p = 92) (hn : bt s (p + 1) ≠ 10) :
    Calls Tryd.prog 17 #[.pointer (some ⟨g, 0, none⟩)] w fun e w' => e = .returned (.int .i64 (nextE s p ts).1) ∧ LX w0 w' g s (nextE s p ts).2.1 (nextE s p ts).2.2 := by
  have hu := Tryd.underlying43
  have HL := Lib.hid h
  obtain ⟨v, hb, _⟩ := h.ex
  have c0 : w.cell? ⟨g, 0, none⟩ = some (.string s) := (blk_cell hb 0).trans rfl
  have c1 : w.cell? ⟨g, 1, none⟩ = some (.int .i64 p) := (blk_cell hb 1).trans rfl
  have f1 := blk_frozen hb 1
  clear hb h
  have b32 : (bt s p == 32) = false := by rw [hv]; rfl
  have b9 : (bt s p == 9) = false := by rw [hv]; rfl
  have b13 : (bt s p == 13) = false := by rw [hv]; rfl
  have b35 : (bt s p == 35) = false := by rw [hv]; rfl
  have b92 : (bt s p == 92) = true := by rw [hv]; rfl
  have b10 : (bt s p == 10) = false := by rw [hv]; rfl
  have b46 : (bt s p == 46) = false := by rw [hv]; rfl
  have b34 : (bt s p == 34) = false := by rw [hv]; rfl
  have b47 : (bt s p == 47) = false := by rw [hv]; rfl
  have hd : dgt (bt s p) = false := by rw [hv]; rfl
  have hlt : ltr (bt s p) = false := by rw [hv]; rfl
  clear hv
  have bn : (bt s (p + 1) == 10) = false := by simpa using hn
  clear hn
  have hN := Lib.hid (show nextE s p ts = nextE s p ts from rfl)
  have hw1 : IntKind.i64.wrap (p + 1) = p + 1 := IntWalk.i64_in _ (by omega)
  have hw2 : IntKind.i64.wrap (p + 2) = p + 2 := IntWalk.i64_in _ (by omega)
  have hbt := bt_at s p (by omega)
  have hE : ∃ X, nextE s p ts = X := ⟨_, rfl⟩
  obtain ⟨X, hX⟩ := hE
  rw [hX]
  simp only [nextE, b32, b9, b13, b35, b92, b10, b46, b34, b47, hd, hlt, bn, Bool.true_or, Bool.or_true, Bool.false_or, Bool.or_false, Bool.true_and, Bool.and_true, Bool.false_and, Bool.and_false, if_true, if_false, Bool.false_eq_true, ↓reduceIte] at hX
  clear hN
  subst hX
  go_enter Tryd.func17, Tryd.ntmps17
  go_wp2
  go_quiet (fail)
  go_wp2_with (first | (go_at_call 25; (with_reducible refine (lex_peek g s p 1 ts w0 _ (by repeat (first | exact HL.out | apply LX.drewN | apply LX.drew)) h0 (by omega) (by omega) (by omega)).mono ?_); rintro e w2 ⟨rfl, hL2⟩; have HL2 := Lib.hid hL2; obtain ⟨v2, hb2, _⟩ := HL2.out.ex; have z0 : w2.cell? ⟨g, 0, none⟩ = some (.string s) := (blk_cell hb2 0).trans rfl; have z1 : w2.cell? ⟨g, 1, none⟩ = some (.int .i64 p) := (blk_cell hb2 1).trans rfl; have zf := blk_frozen hb2 1; clear hb2 hL2 c0 c1 f1) | (go_at_call 26; (with_reducible refine (lex_digit_any _ _).mono ?_); rintro e w9 ⟨rfl, rfl⟩) | (go_at_call 28; (with_reducible refine (lex_letter_any _ _).mono ?_); rintro e w9 ⟨rfl, rfl⟩) | (go_at_call 34; (with_reducible refine (lex_sign g s p ts w0 _ hT (by first | exact HL4.out | exact HL2.out | (repeat (first | exact HL.out | apply LX.drewN | apply LX.drew))) h0 h1 hs hl).mono ?_); rintro e w5 ⟨rfl, hL5⟩; have HL5 := Lib.hid hL5; clear hL5))
  go_ret
  exact ⟨rfl, HL5.out⟩
set_option maxHeartbeats 4000000 in
set_option maxRecDepth 100000 in
theorem lex_next_dots (g : Nat) (s : ByteArray) (p : Int) (ts : List Tok) (w0 w : World) (hT : TB w0) (h : LX w0 w g s p ts) (h0 : 0 ≤ p) (h1 : p < (s.size : Int)) (hs : s.size ≤ 100000) (hl : ts.length ≤ 1000000) (hv : bt s p = 46) (hn : dgt (bt s (p + 1)) = false) :
    Calls Tryd.prog 17 #[.pointer (some ⟨g, 0, none⟩)] w fun e w' => e = .returned (.int .i64 (nextE s p ts).1) ∧ LX w0 w' g s (nextE s p ts).2.1 (nextE s p ts).2.2 := by
  have hu := Tryd.underlying43
  have HL := Lib.hid h
  obtain ⟨v, hb, _⟩ := h.ex
  have c0 : w.cell? ⟨g, 0, none⟩ = some (.string s) := (blk_cell hb 0).trans rfl
  have c1 : w.cell? ⟨g, 1, none⟩ = some (.int .i64 p) := (blk_cell hb 1).trans rfl
  have f1 := blk_frozen hb 1
  clear hb h
  have b32 : (bt s p == 32) = false := by rw [hv]; rfl
  have b9 : (bt s p == 9) = false := by rw [hv]; rfl
  have b13 : (bt s p == 13) = false := by rw [hv]; rfl
  have b35 : (bt s p == 35) = false := by rw [hv]; rfl
  have b92 : (bt s p == 92) = false := by rw [hv]; rfl
  have b10 : (bt s p == 10) = false := by rw [hv]; rfl
  have b46 : (bt s p == 46) = true := by rw [hv]; rfl
  have b34 : (bt s p == 34) = false := by rw [hv]; rfl
  have b47 : (bt s p == 47) = false := by rw [hv]; rfl
  have hd : dgt (bt s p) = false := by rw [hv]; rfl
  have hlt : ltr (bt s p) = false := by rw [hv]; rfl
  clear hv
  have hN := Lib.hid (show nextE s p ts = nextE s p ts from rfl)
  have hw1 : IntKind.i64.wrap (p + 1) = p + 1 := IntWalk.i64_in _ (by omega)
  have hw2 : IntKind.i64.wrap (p + 2) = p + 2 := IntWalk.i64_in _ (by omega)
  have hbt := bt_at s p (by omega)
  have hE : ∃ X, nextE s p ts = X := ⟨_, rfl⟩
  obtain ⟨X, hX⟩ := hE
  rw [hX]
  simp only [nextE, b32, b9, b13, b35, b92, b10, b46, b34, b47, hd, hlt, hn, Bool.true_or, Bool.or_true, Bool.false_or, Bool.or_false, Bool.true_and, Bool.and_true, Bool.false_and, Bool.and_false, if_true, if_false, Bool.false_eq_true, ↓reduceIte] at hX
  clear hN
  subst hX
  go_enter Tryd.func17, Tryd.ntmps17
  go_wp2
  go_quiet (fail)
  go_wp2_with (first | (go_at_call 25; (with_reducible refine (lex_peek g s p 1 ts w0 _ (by repeat (first | exact HL.out | apply LX.drewN | apply LX.drew)) h0 (by omega) (by omega) (by omega)).mono ?_); rintro e w2 ⟨rfl, hL2⟩; have HL2 := Lib.hid hL2; obtain ⟨v2, hb2, _⟩ := HL2.out.ex; have z0 : w2.cell? ⟨g, 0, none⟩ = some (.string s) := (blk_cell hb2 0).trans rfl; have z1 : w2.cell? ⟨g, 1, none⟩ = some (.int .i64 p) := (blk_cell hb2 1).trans rfl; have zf := blk_frozen hb2 1; clear hb2 hL2 c0 c1 f1) | (go_at_call 26; (with_reducible refine (lex_digit_any _ _).mono ?_); rintro e w9 ⟨rfl, rfl⟩) | (go_at_call 28; (with_reducible refine (lex_letter_any _ _).mono ?_); rintro e w9 ⟨rfl, rfl⟩) | (go_at_call 34; (with_reducible refine (lex_sign g s p ts w0 _ hT (by first | exact HL4.out | exact HL2.out | (repeat (first | exact HL.out | apply LX.drewN | apply LX.drew))) h0 h1 hs hl).mono ?_); rintro e w5 ⟨rfl, hL5⟩; have HL5 := Lib.hid hL5; clear hL5))
  go_ret
  exact ⟨rfl, HL5.out⟩
set_option maxHeartbeats 4000000 in
set_option maxRecDepth 100000 in
theorem lex_next_other (g : Nat) (s : ByteArray) (p : Int) (ts : List Tok) (w0 w : World) (hT : TB w0) (h : LX w0 w g s p ts) (h0 : 0 ≤ p) (h1 : p < (s.size : Int)) (hs : s.size ≤ 100000) (hl : ts.length ≤ 1000000) (hne : bt s p ≠ 32 ∧ bt s p ≠ 9 ∧ bt s p ≠ 13 ∧ bt s p ≠ 35 ∧ bt s p ≠ 92 ∧ bt s p ≠ 10 ∧ bt s p ≠ 46 ∧ bt s p ≠ 34 ∧ bt s p ≠ 47) (hd : dgt (bt s p) = false) (hlt : ltr (bt s p) = false) :
    Calls Tryd.prog 17 #[.pointer (some ⟨g, 0, none⟩)] w fun e w' => e = .returned (.int .i64 (nextE s p ts).1) ∧ LX w0 w' g s (nextE s p ts).2.1 (nextE s p ts).2.2 := by
  have hu := Tryd.underlying43
  have HL := Lib.hid h
  obtain ⟨v, hb, _⟩ := h.ex
  have c0 : w.cell? ⟨g, 0, none⟩ = some (.string s) := (blk_cell hb 0).trans rfl
  have c1 : w.cell? ⟨g, 1, none⟩ = some (.int .i64 p) := (blk_cell hb 1).trans rfl
  have f1 := blk_frozen hb 1
  clear hb h
  have b32 : (bt s p == 32) = false := by simp; omega
  have b9 : (bt s p == 9) = false := by simp; omega
  have b13 : (bt s p == 13) = false := by simp; omega
  have b35 : (bt s p == 35) = false := by simp; omega
  have b92 : (bt s p == 92) = false := by simp; omega
  have b10 : (bt s p == 10) = false := by simp; omega
  have b46 : (bt s p == 46) = false := by simp; omega
  have b34 : (bt s p == 34) = false := by simp; omega
  have b47 : (bt s p == 47) = false := by simp; omega
  clear hne
  have hN := Lib.hid (show nextE s p ts = nextE s p ts from rfl)
  have hw1 : IntKind.i64.wrap (p + 1) = p + 1 := IntWalk.i64_in _ (by omega)
  have hw2 : IntKind.i64.wrap (p + 2) = p + 2 := IntWalk.i64_in _ (by omega)
  have hbt := bt_at s p (by omega)
  have hE : ∃ X, nextE s p ts = X := ⟨_, rfl⟩
  obtain ⟨X, hX⟩ := hE
  rw [hX]
  simp only [nextE, b32, b9, b13, b35, b92, b10, b46, b34, b47, hd, hlt, Bool.true_or, Bool.or_true, Bool.false_or, Bool.or_false, Bool.true_and, Bool.and_true, Bool.false_and, Bool.and_false, if_true, if_false, Bool.false_eq_true, ↓reduceIte] at hX
  clear hN
  subst hX
  go_enter Tryd.func17, Tryd.ntmps17
  go_wp2
  go_quiet (fail)
  go_wp2_with (first | (go_at_call 26; (with_reducible refine (lex_digit_any _ _).mono ?_); rintro e w9 ⟨rfl, rfl⟩) | (go_at_call 28; (with_reducible refine (lex_letter_any _ _).mono ?_); rintro e w9 ⟨rfl, rfl⟩) | (go_at_call 34; (with_reducible refine (lex_sign g s p ts w0 _ hT (by first | exact HL4.out | exact HL2.out | (repeat (first | exact HL.out | apply LX.drewN | apply LX.drew))) h0 h1 hs hl).mono ?_); rintro e w5 ⟨rfl, hL5⟩; have HL5 := Lib.hid hL5; clear hL5))
  go_ret
  exact ⟨rfl, HL5.out⟩
theorem lex_next (g : Nat) (s : ByteArray) (p : Int) (ts : List Tok) (w0 w : World) (hT : TB w0) (h : LX w0 w g s p ts) (h0 : 0 ≤ p) (h1 : p < (s.size : Int)) (hs : s.size ≤ 100000) (hl : ts.length ≤ 1000000) :
    Calls Tryd.prog 17 #[.pointer (some ⟨g, 0, none⟩)] w fun e w' => e = .returned (.int .i64 (nextE s p ts).1) ∧ LX w0 w' g s (nextE s p ts).2.1 (nextE s p ts).2.2 := by
  by_cases v32 : bt s p = 32
  · exact lex_next_sp g s p ts w0 w h h0 h1 hs v32
  by_cases v9 : bt s p = 9
  · exact lex_next_tab g s p ts w0 w h h0 h1 hs v9
  by_cases v13 : bt s p = 13
  · exact lex_next_cr g s p ts w0 w h h0 h1 hs v13
  by_cases v35 : bt s p = 35
  · exact lex_next_hash g s p ts w0 w h h0 h1 hs v35
  by_cases v92 : bt s p = 92
  · by_cases n10 : bt s (p + 1) = 10
    · exact lex_next_back g s p ts w0 w h h0 h1 hs v92 n10
    · exact lex_next_backs g s p ts w0 w hT h h0 h1 hs hl v92 n10
  by_cases v10 : bt s p = 10
  · exact lex_next_nl g s p ts w0 w h h0 h1 hs hl v10
  by_cases v46 : bt s p = 46
  · cases hd : dgt (bt s (p + 1)) with
    | true => exact lex_next_dot g s p ts w0 w h h0 h1 hs hl v46 hd
    | false => exact lex_next_dots g s p ts w0 w hT h h0 h1 hs hl v46 hd
  by_cases v34 : bt s p = 34
  · exact lex_next_str g s p ts w0 w hT h h0 h1 hs hl v34
  by_cases v47 : bt s p = 47
  · cases hd : slashB ts with
    | true => exact lex_next_reg g s p ts w0 w hT h h0 h1 hs hl v47 hd
    | false => exact lex_next_div g s p ts w0 w hT h h0 h1 hs hl v47 hd
  cases hd : dgt (bt s p) with
  | true => exact lex_next_dig g s p ts w0 w h h0 h1 hs hl hd
  | false =>
    cases hlt : ltr (bt s p) with
    | true => exact lex_next_let g s p ts w0 w hT h h0 h1 hs hl hlt
    | false => exact lex_next_other g s p ts w0 w hT h h0 h1 hs hl ⟨v32, v9, v13, v35, v92, v10, v46, v34, v47⟩ hd hlt
end Go.Proofs.YtpnkcihiliagcaaDoor.Pr
