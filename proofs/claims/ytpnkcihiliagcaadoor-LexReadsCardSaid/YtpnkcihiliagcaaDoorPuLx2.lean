/- lex: while, for each of its three uses. -/
import Derived.Test.YtpnkcihiliagcaaDoorPuLx1
import Derived.Deep.LoopGhost
namespace Go.Proofs.YtpnkcihiliagcaaDoor.Pr
open Go Go.RowKit Go.Proofs.YtpnkcihiliagcaaDoorW.PrintWords Go.Proofs.YtpnkcihiliagcaaDoorW.PrintLast Go.Proofs.YtpnkcihiliagcaaDoorW.PrintMore
set_option linter.unusedVariables false

/-- how far the bytes of a kind go -/
def runTo (P : Int → Bool) (s : ByteArray) : Nat → Int → Int
  | 0, p => p
  | d + 1, p => if p < (s.size : Int) then (if P (bt s p) = true then runTo P s d (p + 1) else p) else p
theorem run_more {P : Int → Bool} {s : ByteArray} {q R : Int} (h : ∃ d : Nat, (s.size : Int) - q ≤ d ∧ runTo P s d q = R) (hlt : q < (s.size : Int)) (hP : P (bt s q) = true) : ∃ d : Nat, (s.size : Int) - (q + 1) ≤ d ∧ runTo P s d (q + 1) = R := by
  obtain ⟨d, hd, h⟩ := h
  cases d with
  | zero => omega
  | succ d =>
    rw [runTo, if_pos hlt, if_pos hP] at h
    exact ⟨d, by omega, h⟩
theorem run_stop {P : Int → Bool} {s : ByteArray} {q R : Int} (h : ∃ d : Nat, (s.size : Int) - q ≤ d ∧ runTo P s d q = R) (hP : q < (s.size : Int) → P (bt s q) = false) : q = R := by
  obtain ⟨d, hd, h⟩ := h
  cases d with
  | zero => exact h
  | succ d =>
    rw [runTo] at h
    by_cases hlt : q < (s.size : Int)
    · rw [if_pos hlt, if_neg (by simp [hP hlt])] at h
      exact h
    · rw [if_neg hlt] at h
      exact h
def ltd (c : Int) : Bool := ltr c || dgt c
def nnl (c : Int) : Bool := c != 10
set_option maxHeartbeats 2000000 in
theorem lex_ltd_any (c : Int) (w : World) : Calls Tryd.prog 42 #[.int .u8 c] w fun e w' => e = .returned (.bool (ltd c)) ∧ w' = w := by
  generalize hb : ltd c = b
  unfold ltd at hb
  cases hl : ltr c with
  | true =>
    rw [hl] at hb
    obtain rfl : true = b := hb
    go_enter Tryd.func42, Tryd.ntmps42
    go_wp2_with (go_at_call 28; refine (lex_letter_any _ _).mono ?_; rintro e w' ⟨rfl, rfl⟩; rw [hl])
    go_ret
    exact ⟨rfl, rfl⟩
  | false =>
    rw [hl] at hb
    obtain rfl : dgt c = b := hb
    go_enter Tryd.func42, Tryd.ntmps42
    go_wp2_with (first | (go_at_call 28; refine (lex_letter_any _ _).mono ?_; rintro e w' ⟨rfl, rfl⟩; rw [hl]) | (go_at_call 26; refine (lex_digit_any _ _).mono ?_; rintro e w' ⟨rfl, rfl⟩))
    go_ret
    exact ⟨rfl, rfl⟩
theorem lex_nnl_any (c : Int) (w : World) : Calls Tryd.prog 24 #[.int .u8 c] w fun e w' => e = .returned (.bool (nnl c)) ∧ w' = w := by
  go_enter Tryd.func24, Tryd.ntmps24
  go_wp2
  go_ret
  exact ⟨rfl, rfl⟩
set_option maxHeartbeats 4000000 in
set_option maxRecDepth 100000 in
theorem lex_while_digit (g : Nat) (s : ByteArray) (p : Int) (ts : List Tok) (w0 w : World) (h : LX w0 w g s p ts) (h0 : 0 ≤ p) (h1 : p ≤ 1000000) (hs : s.size ≤ 1000000) :
    Calls Tryd.prog 23 #[.pointer (some ⟨g, 0, none⟩), .func (.func 26) #[] #[]] w fun e w' => e = .returned (.tuple #[]) ∧ LX w0 w' g s (runTo dgt s s.size p) ts := by
  have hu := Tryd.underlying43
  obtain ⟨R, hR⟩ : ∃ R, runTo dgt s s.size p = R := ⟨_, rfl⟩
  rw [hR]
  go_enter Tryd.func23, Tryd.ntmps23
  go_wp2
  go_loopg [] (s.size + 1) (fun k wr => ∃ q : Int, 0 ≤ q ∧ q ≤ 1000000 + s.size ∧ (s.size : Int) - q < k ∧ Hid (∃ d : Nat, (s.size : Int) - q ≤ d ∧ runTo dgt s d q = R) ∧ Hid (LX w0 wr g s q ts))
  case atStart => exact ⟨p, h0, by omega, by omega, Lib.hid ⟨s.size, by omega, hR⟩, Lib.hid h⟩
  case round =>
    clear h hR
    obtain ⟨q, hq0, hq1, hqk, HE, HL⟩ := hrel
    obtain ⟨v, hb, hRr⟩ := HL.out.ex
    have c0 : wr.cell? ⟨g, 0, none⟩ = some (.string s) := (blk_cell hb 0).trans rfl
    have c1 : wr.cell? ⟨g, 1, none⟩ = some (.int .i64 q) := (blk_cell hb 1).trans rfl
    have f1 := blk_frozen hb 1
    clear hb hRr
    by_cases hlt : q < (s.size : Int)
    · have hd : decide (q < (s.size : Int)) = true := decide_eq_true hlt
      have hbt := bt_at s q (by omega)
      cases hP : dgt (bt s q) with
      | true =>
        go_wp2
        go_quiet ((go_at_call 26; exact Calls.quiet_of_same (lex_digit_any _ _)))
        go_wp2
        go_roundg (gk - 1)
        case measure => omega
        case rel => exact ⟨q + 1, by omega, by omega, by omega, Lib.hid (run_more HE.out hlt hP), Lib.hid (by repeat (first | exact HL.out | apply LX.drewN | apply LX.drew | apply LX.goto))⟩
      | false =>
        have hq := Lib.hid (run_stop HE.out (fun _ => hP))
        go_wp2
        go_quiet ((go_at_call 26; exact Calls.quiet_of_same (lex_digit_any _ _)))
        go_wp2
        go_end0
        exact ⟨rfl, by rw [← hq.out]; repeat (first | exact HL.out | apply LX.drewN | apply LX.drew)⟩
    · have hd : decide (q < (s.size : Int)) = false := decide_eq_false hlt
      have hq := Lib.hid (run_stop HE.out (fun h => absurd h hlt))
      go_wp2
      go_quiet (fail)
      go_wp2
      go_end0
      exact ⟨rfl, by rw [← hq.out]; repeat (first | exact HL.out | apply LX.drewN | apply LX.drew)⟩
set_option maxHeartbeats 4000000 in
set_option maxRecDepth 100000 in
theorem lex_while_word (g : Nat) (s : ByteArray) (p : Int) (ts : List Tok) (w0 w : World) (h : LX w0 w g s p ts) (h0 : 0 ≤ p) (h1 : p ≤ 1000000) (hs : s.size ≤ 1000000) :
    Calls Tryd.prog 23 #[.pointer (some ⟨g, 0, none⟩), .func (.func 42) #[] #[]] w fun e w' => e = .returned (.tuple #[]) ∧ LX w0 w' g s (runTo ltd s s.size p) ts := by
  have hu := Tryd.underlying43
  obtain ⟨R, hR⟩ : ∃ R, runTo ltd s s.size p = R := ⟨_, rfl⟩
  rw [hR]
  go_enter Tryd.func23, Tryd.ntmps23
  go_wp2
  go_loopg [] (s.size + 1) (fun k wr => ∃ q : Int, 0 ≤ q ∧ q ≤ 1000000 + s.size ∧ (s.size : Int) - q < k ∧ Hid (∃ d : Nat, (s.size : Int) - q ≤ d ∧ runTo ltd s d q = R) ∧ Hid (LX w0 wr g s q ts))
  case atStart => exact ⟨p, h0, by omega, by omega, Lib.hid ⟨s.size, by omega, hR⟩, Lib.hid h⟩
  case round =>
    clear h hR
    obtain ⟨q, hq0, hq1, hqk, HE, HL⟩ := hrel
    obtain ⟨v, hb, hRr⟩ := HL.out.ex
    have c0 : wr.cell? ⟨g, 0, none⟩ = some (.string s) := (blk_cell hb 0).trans rfl
    have c1 : wr.cell? ⟨g, 1, none⟩ = some (.int .i64 q) := (blk_cell hb 1).trans rfl
    have f1 := blk_frozen hb 1
    clear hb hRr
    by_cases hlt : q < (s.size : Int)
    · have hd : decide (q < (s.size : Int)) = true := decide_eq_true hlt
      have hbt := bt_at s q (by omega)
      cases hP : ltd (bt s q) with
      | true =>
        go_wp2
        go_quiet ((go_at_call 42; exact Calls.quiet_of_same (lex_ltd_any _ _)))
        go_wp2
        go_roundg (gk - 1)
        case measure => omega
        case rel => exact ⟨q + 1, by omega, by omega, by omega, Lib.hid (run_more HE.out hlt hP), Lib.hid (by repeat (first | exact HL.out | apply LX.drewN | apply LX.drew | apply LX.goto))⟩
      | false =>
        have hq := Lib.hid (run_stop HE.out (fun _ => hP))
        go_wp2
        go_quiet ((go_at_call 42; exact Calls.quiet_of_same (lex_ltd_any _ _)))
        go_wp2
        go_end0
        exact ⟨rfl, by rw [← hq.out]; repeat (first | exact HL.out | apply LX.drewN | apply LX.drew)⟩
    · have hd : decide (q < (s.size : Int)) = false := decide_eq_false hlt
      have hq := Lib.hid (run_stop HE.out (fun h => absurd h hlt))
      go_wp2
      go_quiet (fail)
      go_wp2
      go_end0
      exact ⟨rfl, by rw [← hq.out]; repeat (first | exact HL.out | apply LX.drewN | apply LX.drew)⟩
set_option maxHeartbeats 4000000 in
set_option maxRecDepth 100000 in
theorem lex_while_line (g : Nat) (s : ByteArray) (p : Int) (ts : List Tok) (w0 w : World) (h : LX w0 w g s p ts) (h0 : 0 ≤ p) (h1 : p ≤ 1000000) (hs : s.size ≤ 1000000) :
    Calls Tryd.prog 23 #[.pointer (some ⟨g, 0, none⟩), .func (.func 24) #[] #[]] w fun e w' => e = .returned (.tuple #[]) ∧ LX w0 w' g s (runTo nnl s s.size p) ts := by
  have hu := Tryd.underlying43
  obtain ⟨R, hR⟩ : ∃ R, runTo nnl s s.size p = R := ⟨_, rfl⟩
  rw [hR]
  go_enter Tryd.func23, Tryd.ntmps23
  go_wp2
  go_loopg [] (s.size + 1) (fun k wr => ∃ q : Int, 0 ≤ q ∧ q ≤ 1000000 + s.size ∧ (s.size : Int) - q < k ∧ Hid (∃ d : Nat, (s.size : Int) - q ≤ d ∧ runTo nnl s d q = R) ∧ Hid (LX w0 wr g s q ts))
  case atStart => exact ⟨p, h0, by omega, by omega, Lib.hid ⟨s.size, by omega, hR⟩, Lib.hid h⟩
  case round =>
    clear h hR
    obtain ⟨q, hq0, hq1, hqk, HE, HL⟩ := hrel
    obtain ⟨v, hb, hRr⟩ := HL.out.ex
    have c0 : wr.cell? ⟨g, 0, none⟩ = some (.string s) := (blk_cell hb 0).trans rfl
    have c1 : wr.cell? ⟨g, 1, none⟩ = some (.int .i64 q) := (blk_cell hb 1).trans rfl
    have f1 := blk_frozen hb 1
    clear hb hRr
    by_cases hlt : q < (s.size : Int)
    · have hd : decide (q < (s.size : Int)) = true := decide_eq_true hlt
      have hbt := bt_at s q (by omega)
      cases hP : nnl (bt s q) with
      | true =>
        go_wp2
        go_quiet ((go_at_call 24; exact Calls.quiet_of_same (lex_nnl_any _ _)))
        go_wp2
        go_roundg (gk - 1)
        case measure => omega
        case rel => exact ⟨q + 1, by omega, by omega, by omega, Lib.hid (run_more HE.out hlt hP), Lib.hid (by repeat (first | exact HL.out | apply LX.drewN | apply LX.drew | apply LX.goto))⟩
      | false =>
        have hq := Lib.hid (run_stop HE.out (fun _ => hP))
        go_wp2
        go_quiet ((go_at_call 24; exact Calls.quiet_of_same (lex_nnl_any _ _)))
        go_wp2
        go_end0
        exact ⟨rfl, by rw [← hq.out]; repeat (first | exact HL.out | apply LX.drewN | apply LX.drew)⟩
    · have hd : decide (q < (s.size : Int)) = false := decide_eq_false hlt
      have hq := Lib.hid (run_stop HE.out (fun h => absurd h hlt))
      go_wp2
      go_quiet (fail)
      go_wp2
      go_end0
      exact ⟨rfl, by rw [← hq.out]; repeat (first | exact HL.out | apply LX.drewN | apply LX.drew)⟩
end Go.Proofs.YtpnkcihiliagcaaDoor.Pr
