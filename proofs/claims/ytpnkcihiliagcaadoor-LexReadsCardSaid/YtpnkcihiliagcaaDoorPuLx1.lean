/- lex: peek, while. -/
import Derived.Test.YtpnkcihiliagcaaDoorPuLx0
import Derived.Outline
import Derived.IntWalk
namespace Go.Proofs.YtpnkcihiliagcaaDoor.Pr
open Go Go.RowKit Go.Proofs.YtpnkcihiliagcaaDoorW.PrintWords Go.Proofs.YtpnkcihiliagcaaDoorW.PrintLast Go.Proofs.YtpnkcihiliagcaaDoorW.PrintMore
set_option linter.unusedVariables false

set_option maxHeartbeats 2000000 in
set_option maxRecDepth 100000 in
theorem lex_peek (g : Nat) (s : ByteArray) (p n : Int) (ts : List Tok) (w0 w : World) (h : LX w0 w g s p ts) (h0 : 0 ≤ p) (h1 : 0 ≤ n) (h2 : p + n ≤ 1000000000) (hs : s.size ≤ 1000000) :
    Calls Tryd.prog 25 #[.pointer (some ⟨g, 0, none⟩), .int .i64 n] w fun e w' => e = .returned (.int .u8 (bt s (p + n))) ∧ LX w0 w' g s p ts := by
  have H := Lib.hid h
  obtain ⟨⟨v, hb, hR⟩, hge, hB⟩ := h
  have hu := Tryd.underlying43
  have c0 : w.cell? ⟨g, 0, none⟩ = some (.string s) := (blk_cell hb 0).trans rfl
  have c1 : w.cell? ⟨g, 1, none⟩ = some (.int .i64 p) := (blk_cell hb 1).trans rfl
  clear hb hR hge hB
  have hw : IntKind.i64.wrap (p + n) = p + n := IntWalk.i64_in (p + n) (by omega)
  have hpn : 0 ≤ p + n := by omega
  by_cases hlt : p + n < (s.size : Int)
  · have hb := bt_at s (p + n) (by omega)
    have hd : decide (p + n ≥ (s.size : Int)) = false := by simp; omega
    go_enter Tryd.func25, Tryd.ntmps25
    go_wp2
    go_quiet (fail)
    go_wp2
    go_quiet (fail)
    go_wp2
    go_ret
    exact ⟨rfl, by repeat (first | exact H.out | apply LX.drewN | apply LX.drew)⟩
  · have hd : decide (p + n ≥ (s.size : Int)) = true := by simp; omega
    have hz : bt s (p + n) = 0 := by unfold bt; rw [dif_neg (by omega)]
    rw [hz]
    go_enter Tryd.func25, Tryd.ntmps25
    go_wp2
    go_quiet (fail)
    go_wp2
    go_ret
    exact ⟨rfl, by repeat (first | exact H.out | apply LX.drewN | apply LX.drew)⟩
/-- digit -/
def dgt (c : Int) : Bool := decide (48 ≤ c ∧ c ≤ 57)
def ltr (c : Int) : Bool := decide ((97 ≤ c ∧ c ≤ 122) ∨ (65 ≤ c ∧ c ≤ 90) ∨ c = 95)
set_option maxHeartbeats 2000000 in
theorem lex_digit_any (c : Int) (w : World) : Calls Tryd.prog 26 #[.int .u8 c] w fun e w' => e = .returned (.bool (dgt c)) ∧ w' = w := by
  by_cases h1 : 48 ≤ c
  · by_cases h2 : c ≤ 57
    · have e : dgt c = true := by unfold dgt; simp; omega
      rw [e]
      go_enter Tryd.func26, Tryd.ntmps26
      go_wp2
      go_ret
      exact ⟨rfl, rfl⟩
    · have e : dgt c = false := by unfold dgt; simp; omega
      have h3 : decide (c ≤ 57) = false := by simpa using h2
      rw [e]
      go_enter Tryd.func26, Tryd.ntmps26
      go_wp2
      go_ret
      exact ⟨rfl, rfl⟩
  · have e : dgt c = false := by unfold dgt; simp; omega
    have h3 : decide (48 ≤ c) = false := by simpa using h1
    rw [e]
    go_enter Tryd.func26, Tryd.ntmps26
    go_wp2
    go_ret
    exact ⟨rfl, rfl⟩
set_option maxHeartbeats 4000000 in
theorem lex_letter_any (c : Int) (w : World) : Calls Tryd.prog 28 #[.int .u8 c] w fun e w' => e = .returned (.bool (ltr c)) ∧ w' = w := by
  have hc : c < 65 ∨ (65 ≤ c ∧ c ≤ 90) ∨ (90 < c ∧ c < 95) ∨ c = 95 ∨ c = 96 ∨ (97 ≤ c ∧ c ≤ 122) ∨ 122 < c := by omega
  generalize hb : ltr c = b
  unfold ltr at hb
  rcases hc with h | ⟨h, h'⟩ | ⟨h, h'⟩ | h | h | ⟨h, h'⟩ | h
  all_goals
    first | (have hbb : b = true := by (rw [← hb]; simp; omega)) | (have hbb : b = false := by (rw [← hb]; simp; omega))
    clear hb
    subst hbb
    (try subst h)
    (try have e1 : (c == 95) = false := by simp; omega)
    (try have e2 : decide (97 ≤ c) = false := by simp; omega)
    (try have e3 : decide (97 ≤ c) = true := by simp; omega)
    (try have e4 : decide (c ≤ 122) = false := by simp; omega)
    (try have e5 : decide (c ≤ 122) = true := by simp; omega)
    (try have e6 : decide (65 ≤ c) = false := by simp; omega)
    (try have e7 : decide (65 ≤ c) = true := by simp; omega)
    (try have e8 : decide (c ≤ 90) = false := by simp; omega)
    (try have e9 : decide (c ≤ 90) = true := by simp; omega)
    go_enter Tryd.func28, Tryd.ntmps28
    go_wp2
    go_ret
    exact ⟨rfl, rfl⟩
end Go.Proofs.YtpnkcihiliagcaaDoor.Pr
