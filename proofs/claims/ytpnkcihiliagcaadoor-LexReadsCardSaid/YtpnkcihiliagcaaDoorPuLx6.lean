/- lex: sign. -/
import Derived.Test.YtpnkcihiliagcaaDoorPuLx5
namespace Go.Proofs.YtpnkcihiliagcaaDoor.Pr
open Go Go.RowKit Go.Proofs.YtpnkcihiliagcaaDoorW.PrintWords Go.Proofs.YtpnkcihiliagcaaDoorW.PrintLast Go.Proofs.YtpnkcihiliagcaaDoorW.PrintMore
set_option linter.unusedVariables false
attribute [local go_sem] min2_int

def twosT : ByteArray := ⟨#[32, 43, 61, 32, 45, 61, 32, 42, 61, 32, 47, 61, 32, 37, 61, 32, 61, 61, 32, 60, 61, 32, 62, 61, 32, 33, 61, 32, 43, 43, 32, 45, 45, 32, 38, 38, 32, 124, 124, 32, 62, 62, 32, 33, 126, 32]⟩
def onesT : ByteArray := ⟨#[123, 125, 40, 41, 91, 93, 59, 44, 43, 45, 42, 47, 37, 33, 62, 60, 124, 63, 58, 126, 36, 61]⟩
def spB : ByteArray := ⟨#[32]⟩
/-- is this pair of bytes a sign -/
def twoB (x : ByteArray) : Bool := Lib.contains twosT.data.toList ((spB ++ x) ++ spB).data.toList
def oneI (c : Int) : Int := Lib.indexByte onesT.data.toList c.toNat.toUInt8
theorem ext_one (s : ByteArray) (p q : Int) (h0 : 0 ≤ p) (h2 : p + 1 ≤ q) : (s.extract p.toNat q.toNat).extract 0 1 = cut s p (p + 1) := by
  unfold cut
  rw [ByteArray.extract_extract]
  congr 1
  omega
set_option maxHeartbeats 8000000 in
set_option maxRecDepth 100000 in
theorem lex_sign_two (g : Nat) (s : ByteArray) (p : Int) (ts : List Tok) (w0 w : World) (hT : TB w0) (h : LX w0 w g s p ts) (h0 : 0 ≤ p) (h1 : p + 2 ≤ (s.size : Int)) (hs : s.size ≤ 100000) (hl : ts.length ≤ 1000000) (h2 : twoB (cut s p (p + 2)) = true) :
    Calls Tryd.prog 34 #[.pointer (some ⟨g, 0, none⟩)] w fun e w' => e = .returned (.int .i64 0) ∧ LX w0 w' g s (p + 2) (ts ++ [⟨8, cut s p (p + 2), p⟩]) := by
  have hu := Tryd.underlying43
  have HL := Lib.hid h
  obtain ⟨v, hb, _⟩ := h.ex
  have c0 : w.cell? ⟨g, 0, none⟩ = some (.string s) := (blk_cell hb 0).trans rfl
  have c1 : w.cell? ⟨g, 1, none⟩ = some (.int .i64 p) := (blk_cell hb 1).trans rfl
  have f1 := blk_frozen hb 1
  obtain ⟨m, hm⟩ := (hT.below h.bel).most
  have hmN : ∀ n, (w.drewN n).cell? ⟨3, 0, none⟩ = some (.int .i64 m) := fun _ => hm
  clear hb h
  have hw : IntKind.i64.wrap (p + 2) = p + 2 := IntWalk.i64_in _ (by omega)
  have H2 := Lib.hid h2
  clear h2
  have hmn : min (p + 2) (s.size : Int) = p + 2 := by omega
  have hsz : (s.extract p.toNat (p + 2).toNat).size = 2 := by simp; omega
  go_enter Tryd.func34, Tryd.ntmps34
  go_wp2
  go_quiet (fail)
  go_wp2_with (first | (go_at_call 44; refine (Tryd.strings_Contains twosT _ m _ (by decide) (hmN _)).mono ?_; rintro e w' ⟨rfl, rfl⟩; have q_ := H2.out; unfold twoB cut spB at q_; rw [q_]; clear q_) | (go_at_call 18; refine (lex_put g s p ts ⟨8, cut s p (p + 2), p⟩ w0 _ (by repeat (first | exact HL.out | apply LX.drewN | apply LX.drew)) hl).mono ?_; rintro e w9 ⟨rfl, hL9⟩; have HL9 := Lib.hid hL9; obtain ⟨v9, hb9, _⟩ := hL9.ex; have d0 : w9.cell? ⟨g, 0, none⟩ = some (.string s) := (blk_cell hb9 0).trans rfl; have d1 : w9.cell? ⟨g, 1, none⟩ = some (.int .i64 p) := (blk_cell hb9 1).trans rfl; have e1 := blk_frozen hb9 1; clear hb9 hL9 c0 c1 f1))
  go_ret
  exact ⟨rfl, LX.goto HL9.out _⟩
set_option maxHeartbeats 8000000 in
set_option maxRecDepth 100000 in
theorem lex_sign_one (g : Nat) (s : ByteArray) (p : Int) (ts : List Tok) (w0 w : World) (hT : TB w0) (h : LX w0 w g s p ts) (h0 : 0 ≤ p) (h1 : p < (s.size : Int)) (hs : s.size ≤ 100000) (hl : ts.length ≤ 1000000) (h2 : p + 2 ≤ (s.size : Int) → twoB (cut s p (p + 2)) = false) (h3 : 0 ≤ oneI (bt s p)) :
    Calls Tryd.prog 34 #[.pointer (some ⟨g, 0, none⟩)] w fun e w' => e = .returned (.int .i64 0) ∧ LX w0 w' g s (p + 1) (ts ++ [⟨8, cut s p (p + 1), p⟩]) := by
  have hu := Tryd.underlying43
  have HL := Lib.hid h
  obtain ⟨v, hb, _⟩ := h.ex
  have c0 : w.cell? ⟨g, 0, none⟩ = some (.string s) := (blk_cell hb 0).trans rfl
  have c1 : w.cell? ⟨g, 1, none⟩ = some (.int .i64 p) := (blk_cell hb 1).trans rfl
  have f1 := blk_frozen hb 1
  obtain ⟨m, hm⟩ := (hT.below h.bel).most
  have hmN : ∀ n, (w.drewN n).cell? ⟨3, 0, none⟩ = some (.int .i64 m) := fun _ => hm
  clear hb h
  have hw : IntKind.i64.wrap (p + 2) = p + 2 := IntWalk.i64_in _ (by omega)
  have hbt := bt_at s p (by omega)
  obtain ⟨d, hd⟩ : ∃ d, oneI (bt s p) = d := ⟨_, rfl⟩
  rw [hd] at h3
  have hix : ∀ W, Calls Tryd.prog 45 #[.string onesT, .int .u8 (bt s p)] W fun e w' => e = .returned (.int .i64 d) ∧ w' = W := fun W => by rw [← hd]; exact Tryd.strings_IndexByte _ _ _
  have hdd : decide (d < 0) = false := by simp; omega
  clear hd
  by_cases h4 : p + 2 ≤ (s.size : Int)
  · have H2 := Lib.hid (h2 h4)
    clear h2
    have hmn : min (p + 2) (s.size : Int) = p + 2 := by omega
    have hsz : (s.extract p.toNat (p + 2).toNat).size = 2 := by simp; omega
    have hx : (s.extract p.toNat (p + 2).toNat).extract 0 1 = cut s p (p + 1) := ext_one s p _ h0 (by omega)
    go_enter Tryd.func34, Tryd.ntmps34
    go_wp2
    go_quiet (fail)
    go_wp2_with (go_at_call 44; refine (Tryd.strings_Contains twosT _ m _ (by decide) (hmN _)).mono ?_; rintro e w' ⟨rfl, rfl⟩; have q_ := H2.out; unfold twoB cut spB at q_; rw [q_]; clear q_)
    go_quiet ((go_at_call 45; exact (hix _).mono (fun _ _ h => ⟨h.1, _, h.2⟩)))
    go_wp2
    generalize hW : World.drewN (World.drewN w _) _ = W
    have z1 : W.cell? ⟨g, 1, none⟩ = some (.int .i64 p) := by rw [← hW]; exact c1
    have HW : Hid (LX w0 W g s p ts) := Lib.hid (by rw [← hW]; exact LX.drewN (LX.drewN HL.out _) _)
    clear hW
    go_still_tail 7, (by kernel_rfl)
    change wpList _ _ _ _ _ W.drew
    go_wp2_with (go_at_call 18; (with_reducible refine (lex_put g s p ts ⟨8, cut s p (p + 1), p⟩ w0 _ (LX.drew HW.out) hl).mono ?_); rintro e w9 ⟨rfl, hL9⟩; have HL9 := Lib.hid hL9; obtain ⟨v9, hb9, _⟩ := hL9.ex; have d0 : w9.cell? ⟨g, 0, none⟩ = some (.string s) := (blk_cell hb9 0).trans rfl; have d1 : w9.cell? ⟨g, 1, none⟩ = some (.int .i64 p) := (blk_cell hb9 1).trans rfl; have e1 := blk_frozen hb9 1; clear hb9 hL9 c0 c1 f1)
    go_ret
    exact ⟨rfl, LX.goto HL9.out _⟩
  · have hps : p + 1 = (s.size : Int) := by omega
    clear h2
    have hmn : min (p + 2) (s.size : Int) = (s.size : Int) := by omega
    have hsz : (s.extract p.toNat s.size).size = 1 := by simp; omega
    have hx : (s.extract p.toNat s.size).extract 0 1 = cut s p (p + 1) := by have := ext_one s p (s.size : Int) h0 (by omega); clear hps; simpa using this
    clear hps
    go_enter Tryd.func34, Tryd.ntmps34
    go_wp2
    go_quiet (fail)
    go_wp2
    go_quiet ((go_at_call 45; exact (hix _).mono (fun _ _ h => ⟨h.1, _, h.2⟩)))
    go_wp2
    generalize hW : World.drewN (World.drewN w _) _ = W
    have z1 : W.cell? ⟨g, 1, none⟩ = some (.int .i64 p) := by rw [← hW]; exact c1
    have HW : Hid (LX w0 W g s p ts) := Lib.hid (by rw [← hW]; exact LX.drewN (LX.drewN HL.out _) _)
    clear hW
    go_still_tail 7, (by kernel_rfl)
    change wpList _ _ _ _ _ W.drew
    go_wp2_with (go_at_call 18; (with_reducible refine (lex_put g s p ts ⟨8, cut s p (p + 1), p⟩ w0 _ (LX.drew HW.out) hl).mono ?_); rintro e w9 ⟨rfl, hL9⟩; have HL9 := Lib.hid hL9; obtain ⟨v9, hb9, _⟩ := hL9.ex; have d0 : w9.cell? ⟨g, 0, none⟩ = some (.string s) := (blk_cell hb9 0).trans rfl; have d1 : w9.cell? ⟨g, 1, none⟩ = some (.int .i64 p) := (blk_cell hb9 1).trans rfl; have e1 := blk_frozen hb9 1; clear hb9 hL9 c0 c1 f1)
    go_ret
    exact ⟨rfl, LX.goto HL9.out _⟩
set_option maxHeartbeats 8000000 in
set_option maxRecDepth 100000 in
theorem lex_sign_bad (g : Nat) (s : ByteArray) (p : Int) (ts : List Tok) (w0 w : World) (hT : TB w0) (h : LX w0 w g s p ts) (h0 : 0 ≤ p) (h1 : p < (s.size : Int)) (hs : s.size ≤ 100000) (h2 : p + 2 ≤ (s.size : Int) → twoB (cut s p (p + 2)) = false) (h3 : oneI (bt s p) < 0) :
    Calls Tryd.prog 34 #[.pointer (some ⟨g, 0, none⟩)] w fun e w' => e = .returned (.int .i64 9) ∧ LX w0 w' g s p ts := by
  have hu := Tryd.underlying43
  have HL := Lib.hid h
  obtain ⟨v, hb, _⟩ := h.ex
  have c0 : w.cell? ⟨g, 0, none⟩ = some (.string s) := (blk_cell hb 0).trans rfl
  have c1 : w.cell? ⟨g, 1, none⟩ = some (.int .i64 p) := (blk_cell hb 1).trans rfl
  have f1 := blk_frozen hb 1
  obtain ⟨m, hm⟩ := (hT.below h.bel).most
  have hmN : ∀ n, (w.drewN n).cell? ⟨3, 0, none⟩ = some (.int .i64 m) := fun _ => hm
  clear hb h
  have hw : IntKind.i64.wrap (p + 2) = p + 2 := IntWalk.i64_in _ (by omega)
  have hbt := bt_at s p (by omega)
  obtain ⟨d, hd⟩ : ∃ d, oneI (bt s p) = d := ⟨_, rfl⟩
  rw [hd] at h3
  have hix : ∀ W, Calls Tryd.prog 45 #[.string onesT, .int .u8 (bt s p)] W fun e w' => e = .returned (.int .i64 d) ∧ w' = W := fun W => by rw [← hd]; exact Tryd.strings_IndexByte _ _ _
  have hdd : decide (d < 0) = true := by simp; omega
  clear hd
  by_cases h4 : p + 2 ≤ (s.size : Int)
  · have H2 := Lib.hid (h2 h4)
    clear h2
    have hmn : min (p + 2) (s.size : Int) = p + 2 := by omega
    have hsz : (s.extract p.toNat (p + 2).toNat).size = 2 := by simp; omega
    go_enter Tryd.func34, Tryd.ntmps34
    go_wp2
    go_quiet (fail)
    go_wp2_with (go_at_call 44; refine (Tryd.strings_Contains twosT _ m _ (by decide) (hmN _)).mono ?_; rintro e w' ⟨rfl, rfl⟩; have q_ := H2.out; unfold twoB cut spB at q_; rw [q_]; clear q_)
    go_quiet ((go_at_call 45; exact (hix _).mono (fun _ _ h => ⟨h.1, _, h.2⟩)))
    go_wp2
    go_ret
    exact ⟨rfl, by repeat (first | exact HL.out | apply LX.drewN | apply LX.drew)⟩
  · have hps : p + 1 = (s.size : Int) := by omega
    clear h2
    have hmn : min (p + 2) (s.size : Int) = (s.size : Int) := by omega
    have hsz : (s.extract p.toNat s.size).size = 1 := by simp; omega
    clear hps
    go_enter Tryd.func34, Tryd.ntmps34
    go_wp2
    go_quiet (fail)
    go_wp2
    go_quiet ((go_at_call 45; exact (hix _).mono (fun _ _ h => ⟨h.1, _, h.2⟩)))
    go_wp2
    go_ret
    exact ⟨rfl, by repeat (first | exact HL.out | apply LX.drewN | apply LX.drew)⟩
end Go.Proofs.YtpnkcihiliagcaaDoor.Pr
