/- lex: quoted. -/
import Derived.Test.YtpnkcihiliagcaaDoorPuLx7
namespace Go.Proofs.YtpnkcihiliagcaaDoor.Pr
open Go Go.RowKit Go.Proofs.YtpnkcihiliagcaaDoorW.PrintWords Go.Proofs.YtpnkcihiliagcaaDoorW.PrintLast Go.Proofs.YtpnkcihiliagcaaDoorW.PrintMore
set_option linter.unusedVariables false

set_option maxHeartbeats 16000000 in
set_option maxRecDepth 100000 in
theorem lex_quoted (F : Nat) (how : Int → ByteArray × Bool) (hF : ∀ c W, TB W → Calls Tryd.prog F #[.int .u8 c] W fun e w' => e = .returned (.tuple #[.string (how c).1, .bool (how c).2]) ∧ Below W.heap.size W w') (hsz : ∀ c, (how c).1.size ≤ 2) (hE : ∀ args w, (callFunc F args).run Tryd.prog w = .ok (.enter F args) w)
    (kind fin : Int) (g : Nat) (s : ByteArray) (p : Int) (R : Bool × Int × List UInt8) (hR : quoteL how s fin p (s.size + 1) (p + 1) [] = R) (ts : List Tok) (w0 w : World) (hT : TB w0) (h : LX w0 w g s p ts) (h0 : 0 ≤ p) (h1 : p < (s.size : Int)) (hs : s.size ≤ 100000) (hl : ts.length ≤ 1000000) :
    Calls Tryd.prog 30 #[.pointer (some ⟨g, 0, none⟩), .int .i64 kind, .int .u8 fin, .func (.func F) #[] #[]] w fun e w' => e = .returned (.int .i64 (errQ R.1)) ∧ LX w0 w' g s R.2.1 (tsQ R kind p ts) := by
  have hu := Tryd.underlying43
  have hub := Tryd.underlying52
  have HQ0 := Lib.hid (QX.goto (QX.new h) (p + 1))
  have HL := Lib.hid h
  obtain ⟨v, hb, _⟩ := h.ex
  have c1 : w.cell? ⟨g, 1, none⟩ = some (.int .i64 p) := (blk_cell hb 1).trans rfl
  have d1 : (w.alloc (.cells #[.pointer none, .slice none 0 0] 52)).cell? ⟨g, 1, none⟩ = some (.int .i64 p) := by
    obtain ⟨v', hb'⟩ := (QX.new h).blk
    exact (blk_cell hb' 1).trans rfl
  have e1 : (w.alloc (.cells #[.pointer none, .slice none 0 0] 52)).frozen? ⟨g, 1, none⟩ = false := by
    obtain ⟨v', hb'⟩ := (QX.new h).blk
    exact blk_frozen hb' 1
  have hw1 : IntKind.i64.wrap (p + 1) = p + 1 := IntWalk.i64_in _ (by omega)
  clear hb h
  go_enter Tryd.func30, Tryd.ntmps30
  go_wp2
  go_loopg [] (s.size + 1) (fun k wr => ∃ (q : Int) (out : List UInt8), 0 ≤ q ∧ q ≤ s.size + 1 ∧ (s.size : Int) - q < k ∧ out.length ≤ q ∧ Hid (∃ d : Nat, 0 < d ∧ (s.size : Int) - q < d ∧ quoteL how s fin p d q out = R) ∧ Hid (QX w wr g s q out))
  case atStart => exact ⟨p + 1, [], by omega, by omega, by omega, by simp; omega, Lib.hid ⟨s.size + 1, by omega, by omega, hR⟩, HQ0⟩
  case round =>
    clear HQ0 hR c1 d1 e1 hw1
    obtain ⟨q, out, hq0, hq1, hqk, hol, HE, HQ⟩ := hrel
    obtain ⟨v, hb⟩ := HQ.out.blk
    have c0 : wr.cell? ⟨g, 0, none⟩ = some (.string s) := (blk_cell hb 0).trans rfl
    have c1 : wr.cell? ⟨g, 1, none⟩ = some (.int .i64 q) := (blk_cell hb 1).trans rfl
    clear hb
    have hq00 : bt s (q + 0) = bt s q := by rw [Int.add_zero]
    have hw1 : IntKind.i64.wrap (q + 1) = q + 1 := IntWalk.i64_in _ (by omega)
    obtain ⟨d', hd0, hdq, he⟩ := HE.out
    obtain ⟨d, rfl⟩ : ∃ d, d' = d + 1 := ⟨d' - 1, by omega⟩
    clear HE hd0
    unfold quoteL at he
    by_cases hA : (s.size : Int) ≤ q
    · rw [if_pos (.inl hA)] at he
      have HEe := Lib.hid he
      clear he
      have hdc : decide (q ≥ (s.size : Int)) = true := decide_eq_true hA
      go_wp2_with (go_at_call 25; (with_reducible refine (lex_peek2 g s q 0 _ c0 c1 hq0 (by omega) (by omega)).mono ?_); rintro e w2 ⟨rfl, hB2⟩; rw [hq00]; have HQ2 := Lib.hid (HQ.out.below hB2); obtain ⟨v2, hb2⟩ := HQ2.out.blk; have z0 : w2.cell? ⟨g, 0, none⟩ = some (.string s) := (blk_cell hb2 0).trans rfl; have z1 : w2.cell? ⟨g, 1, none⟩ = some (.int .i64 q) := (blk_cell hb2 1).trans rfl; have zf := blk_frozen hb2 1; clear hb2 hB2 c0 c1)
      go_quiet (fail)
      go_wp2
      go_ret
      obtain rfl := HEe.out
      have hlast := QX.asL (QX.goto (QX.drewN HQ2.out nq) p) HL.out
      exact ⟨rfl, hlast⟩
    · have hdc : decide (q ≥ (s.size : Int)) = false := by simp; omega
      by_cases h10 : bt s q = 10
      · rw [if_pos (.inr h10)] at he
        have HEe := Lib.hid he
        clear he
        have hd10 : (bt s q == 10) = true := by simpa using h10
        clear h10
        go_wp2_with (go_at_call 25; (with_reducible refine (lex_peek2 g s q 0 _ c0 c1 hq0 (by omega) (by omega)).mono ?_); rintro e w2 ⟨rfl, hB2⟩; rw [hq00]; have HQ2 := Lib.hid (HQ.out.below hB2); obtain ⟨v2, hb2⟩ := HQ2.out.blk; have z0 : w2.cell? ⟨g, 0, none⟩ = some (.string s) := (blk_cell hb2 0).trans rfl; have z1 : w2.cell? ⟨g, 1, none⟩ = some (.int .i64 q) := (blk_cell hb2 1).trans rfl; have zf := blk_frozen hb2 1; clear hb2 hB2 c0 c1)
        go_quiet (fail)
        go_wp2
        go_ret
        obtain rfl := HEe.out
        have hlast := QX.asL (QX.goto (QX.drewN HQ2.out nq) p) HL.out
        exact ⟨rfl, hlast⟩
      · rw [if_neg (fun h => h.elim hA h10)] at he
        have hd10 : (bt s q == 10) = false := by simpa using h10
        clear h10
        by_cases hfin : bt s q = fin
        · rw [if_pos hfin] at he
          have HEe := Lib.hid he
          clear he
          have hdf : (bt s q == fin) = true := by simpa using hfin
          clear hfin
          go_wp2_with (go_at_call 25; (with_reducible refine (lex_peek2 g s q 0 _ c0 c1 hq0 (by omega) (by omega)).mono ?_); rintro e w2 ⟨rfl, hB2⟩; rw [hq00]; have HQ2 := Lib.hid (HQ.out.below hB2); obtain ⟨v2, hb2⟩ := HQ2.out.blk; have z0 : w2.cell? ⟨g, 0, none⟩ = some (.string s) := (blk_cell hb2 0).trans rfl; have z1 : w2.cell? ⟨g, 1, none⟩ = some (.int .i64 q) := (blk_cell hb2 1).trans rfl; have zf := blk_frozen hb2 1; clear hb2 hB2 c0 c1)
          go_quiet (fail)
          go_wp2_with (first
          | (go_at_call 22; have HQ3 : Hid (QX w ((w2.drewN nq).setCell ⟨g, 1, none⟩ (.int .i64 (q + 1))) g s (q + 1) out) := Lib.hid (QX.goto (QX.drewN HQ2.out _) _); (with_reducible refine (builder_string w.heap.size w.heap.size out _ HQ3.out.bu HQ3.out.size).mono ?_); rintro e w4 ⟨rfl, hB4⟩; have HL4 := Lib.hid (HQ3.out.to_below hB4 HL.out); clear HQ3 hB4)
          | (go_at_call 18; (with_reducible refine (lex_put g s (q + 1) ts ⟨kind, ⟨out.toArray⟩, p⟩ w0 _ HL4.out hl).mono ?_); rintro e w5 ⟨rfl, hL5⟩; have HL5 := Lib.hid hL5; clear hL5))
          go_ret
          obtain rfl := HEe.out
          exact ⟨rfl, HL5.out⟩
        · rw [if_neg hfin] at he
          have hdf : (bt s q == fin) = false := by simpa using hfin
          clear hfin
          by_cases h92 : bt s q = 92
          · rw [if_pos h92] at he
            have hd92 : (bt s q == 92) = true := by simpa using h92
            clear h92
            obtain ⟨t, ok, hh⟩ : ∃ t ok, how (bt s (q + 1)) = (t, ok) := ⟨_, _, rfl⟩
            have hF1 := fun W hW => hF (bt s (q + 1)) W hW
            have ht := hsz (bt s (q + 1))
            rw [hh] at hF1 he ht
            simp only at hF1 he ht
            have HF1 := Lib.hid hF1
            clear hF1 hh
            have hst : ∀ l : List UInt8, Lib.byteCells l ++ Lib.strCells t = Lib.byteCells (l ++ t.data.toList) := fun l => by simp [Lib.byteCells, Lib.strCells]
            have hw2 : IntKind.i64.wrap (q + 1 + 1) = q + 2 := by rw [IntWalk.i64_in _ (by omega)]; omega
            by_cases hbad : ok = false ∨ (s.size : Int) ≤ q + 1
            · rw [if_pos hbad] at he
              have HEe := Lib.hid he
              clear he
              have hbd : ok = false ∨ ok = true ∧ decide (q + 1 ≥ (s.size : Int)) = true := by
                cases ok with
                | false => exact .inl rfl
                | true => exact .inr ⟨rfl, decide_eq_true (hbad.elim (fun h => nomatch h) id)⟩
              clear hbad
              rcases hbd with rfl | ⟨rfl, hbd⟩
              · go_wp2_with (go_at_call 25; (with_reducible refine (lex_peek2 g s q 0 _ c0 c1 hq0 (by omega) (by omega)).mono ?_); rintro e w2 ⟨rfl, hB2⟩; rw [hq00]; have HQ2 := Lib.hid (HQ.out.below hB2); obtain ⟨v2, hb2⟩ := HQ2.out.blk; have z0 : w2.cell? ⟨g, 0, none⟩ = some (.string s) := (blk_cell hb2 0).trans rfl; have z1 : w2.cell? ⟨g, 1, none⟩ = some (.int .i64 q) := (blk_cell hb2 1).trans rfl; have zf := blk_frozen hb2 1; clear hb2 hB2 c0 c1)
                go_quiet (fail)
                have zn0 : ∀ n, (w2.drewN n).cell? ⟨g, 0, none⟩ = some (.string s) := fun _ => z0
                have zn1 : ∀ n, (w2.drewN n).cell? ⟨g, 1, none⟩ = some (.int .i64 q) := fun _ => z1
                go_wp2_with (first | (go_at_call 25; (with_reducible refine (lex_peek2 g s q 1 _ (zn0 _) (zn1 _) hq0 (by omega) (by omega)).mono ?_); rintro e w3 ⟨rfl, hB3⟩; have HQ3 := Lib.hid ((QX.drewN HQ2.out nq).below hB3); clear hB3) | (go_at_fn F; (with_reducible refine (HF1.out _ (hT.below (HQ3.out.asL HL.out).bel)).mono ?_); rintro e w4 ⟨rfl, hB4⟩; have HQ4 := Lib.hid (HQ3.out.below hB4); obtain ⟨v4, hb4⟩ := HQ4.out.blk; have y0 : w4.cell? ⟨g, 0, none⟩ = some (.string s) := (blk_cell hb4 0).trans rfl; have y1 : w4.cell? ⟨g, 1, none⟩ = some (.int .i64 q) := (blk_cell hb4 1).trans rfl; have yf := blk_frozen hb4 1; clear hb4 hB4))
                go_quiet (fail)
                go_wp2
                go_ret
                obtain rfl := HEe.out
                have hlast := QX.asL (QX.drewN HQ4.out nq) HL.out
                exact ⟨rfl, hlast⟩
              · go_wp2_with (go_at_call 25; (with_reducible refine (lex_peek2 g s q 0 _ c0 c1 hq0 (by omega) (by omega)).mono ?_); rintro e w2 ⟨rfl, hB2⟩; rw [hq00]; have HQ2 := Lib.hid (HQ.out.below hB2); obtain ⟨v2, hb2⟩ := HQ2.out.blk; have z0 : w2.cell? ⟨g, 0, none⟩ = some (.string s) := (blk_cell hb2 0).trans rfl; have z1 : w2.cell? ⟨g, 1, none⟩ = some (.int .i64 q) := (blk_cell hb2 1).trans rfl; have zf := blk_frozen hb2 1; clear hb2 hB2 c0 c1)
                go_quiet (fail)
                have zn0 : ∀ n, (w2.drewN n).cell? ⟨g, 0, none⟩ = some (.string s) := fun _ => z0
                have zn1 : ∀ n, (w2.drewN n).cell? ⟨g, 1, none⟩ = some (.int .i64 q) := fun _ => z1
                go_wp2_with (first | (go_at_call 25; (with_reducible refine (lex_peek2 g s q 1 _ (zn0 _) (zn1 _) hq0 (by omega) (by omega)).mono ?_); rintro e w3 ⟨rfl, hB3⟩; have HQ3 := Lib.hid ((QX.drewN HQ2.out nq).below hB3); clear hB3) | (go_at_fn F; (with_reducible refine (HF1.out _ (hT.below (HQ3.out.asL HL.out).bel)).mono ?_); rintro e w4 ⟨rfl, hB4⟩; have HQ4 := Lib.hid (HQ3.out.below hB4); obtain ⟨v4, hb4⟩ := HQ4.out.blk; have y0 : w4.cell? ⟨g, 0, none⟩ = some (.string s) := (blk_cell hb4 0).trans rfl; have y1 : w4.cell? ⟨g, 1, none⟩ = some (.int .i64 q) := (blk_cell hb4 1).trans rfl; have yf := blk_frozen hb4 1; clear hb4 hB4))
                go_quiet (fail)
                go_wp2
                go_ret
                obtain rfl := HEe.out
                have hlast := QX.asL (QX.drewN HQ4.out nq) HL.out
                exact ⟨rfl, hlast⟩
            · rw [if_neg hbad] at he
              have HEe := Lib.hid he
              clear he
              obtain rfl : ok = true := by
                cases ok with
                | false => exact absurd (.inl rfl) hbad
                | true => rfl
              have hbd : decide (q + 1 ≥ (s.size : Int)) = false := decide_eq_false (fun h => hbad (.inr h))
              have hq2 : q + 1 < (s.size : Int) := by
                rcases Int.lt_or_le (q + 1) (s.size : Int) with h | h
                · exact h
                · exact absurd (.inr h) hbad
              clear hbad
              go_wp2_with (go_at_call 25; (with_reducible refine (lex_peek2 g s q 0 _ c0 c1 hq0 (by omega) (by omega)).mono ?_); rintro e w2 ⟨rfl, hB2⟩; rw [hq00]; have HQ2 := Lib.hid (HQ.out.below hB2); obtain ⟨v2, hb2⟩ := HQ2.out.blk; have z0 : w2.cell? ⟨g, 0, none⟩ = some (.string s) := (blk_cell hb2 0).trans rfl; have z1 : w2.cell? ⟨g, 1, none⟩ = some (.int .i64 q) := (blk_cell hb2 1).trans rfl; have zf := blk_frozen hb2 1; clear hb2 hB2 c0 c1)
              go_quiet (fail)
              have zn0 : ∀ n, (w2.drewN n).cell? ⟨g, 0, none⟩ = some (.string s) := fun _ => z0
              have zn1 : ∀ n, (w2.drewN n).cell? ⟨g, 1, none⟩ = some (.int .i64 q) := fun _ => z1
              go_wp2_with (first | (go_at_call 25; (with_reducible refine (lex_peek2 g s q 1 _ (zn0 _) (zn1 _) hq0 (by omega) (by omega)).mono ?_); rintro e w3 ⟨rfl, hB3⟩; have HQ3 := Lib.hid ((QX.drewN HQ2.out nq).below hB3); clear hB3) | (go_at_fn F; (with_reducible refine (HF1.out _ (hT.below (HQ3.out.asL HL.out).bel)).mono ?_); rintro e w4 ⟨rfl, hB4⟩; have HQ4 := Lib.hid (HQ3.out.below hB4); obtain ⟨v4, hb4⟩ := HQ4.out.blk; have y0 : w4.cell? ⟨g, 0, none⟩ = some (.string s) := (blk_cell hb4 0).trans rfl; have y1 : w4.cell? ⟨g, 1, none⟩ = some (.int .i64 q) := (blk_cell hb4 1).trans rfl; have yf := blk_frozen hb4 1; clear hb4 hB4))
              go_quiet (fail)
              go_wp2_with (go_at_call 20; have HQ5 := Lib.hid (QX.goto (QX.drewN HQ4.out nq) (q + 1)); (with_reducible refine (builder_writeString w.heap.size w.heap.size (Lib.byteCells out) t _ HQ5.out.bu (by simp [Lib.byteCells]; omega) HQ5.out.size).mono ?_); rintro e w5 ⟨rfl, hu5, hB5, _⟩; have HQ6 := Lib.hid (QX.wrote HQ5.out hB5 hu5 (hst out)); obtain ⟨v6, hb6⟩ := HQ6.out.blk; have x1 : w5.cell? ⟨g, 1, none⟩ = some (.int .i64 (q + 1)) := (blk_cell hb6 1).trans rfl; have xf := blk_frozen hb6 1; clear hu5 hB5 hb6)
              go_roundg (gk - 1)
              case measure => omega
              case rel => exact ⟨q + 2, _, by omega, by omega, by omega, by rw [List.length_append, show t.data.toList.length = t.size from rfl]; omega, Lib.hid ⟨d, by omega, by omega, HEe.out⟩, Lib.hid (by have := QX.goto HQ6.out (q + 2); exact this)⟩
          · rw [if_neg h92] at he
            have HEe := Lib.hid he
            clear he
            have hd92 : (bt s q == 92) = false := by simpa using h92
            clear h92
            have hsn : ∀ l : List UInt8, Lib.byteCells l ++ [.int .u8 (bt s q)] = Lib.byteCells (l ++ [(bt s q).toNat.toUInt8]) := fun l => by rw [← byteCells_snoc, bt_byte]
            go_wp2_with (go_at_call 25; (with_reducible refine (lex_peek2 g s q 0 _ c0 c1 hq0 (by omega) (by omega)).mono ?_); rintro e w2 ⟨rfl, hB2⟩; rw [hq00]; have HQ2 := Lib.hid (HQ.out.below hB2); obtain ⟨v2, hb2⟩ := HQ2.out.blk; have z0 : w2.cell? ⟨g, 0, none⟩ = some (.string s) := (blk_cell hb2 0).trans rfl; have z1 : w2.cell? ⟨g, 1, none⟩ = some (.int .i64 q) := (blk_cell hb2 1).trans rfl; have zf := blk_frozen hb2 1; clear hb2 hB2 c0 c1)
            go_quiet (fail)
            go_wp2_with (go_at_call 21; (with_reducible refine (builder_writeByte w.heap.size w.heap.size (Lib.byteCells out) (bt s q) _ (QX.drewN HQ2.out nq).bu (by simp [Lib.byteCells]; omega) (QX.drewN HQ2.out nq).size).mono ?_); rintro e w5 ⟨rfl, hu5, hB5, _⟩; have HQ5 := Lib.hid (QX.wrote (QX.drewN HQ2.out nq) hB5 hu5 (hsn out)); obtain ⟨v5, hb5⟩ := HQ5.out.blk; have y1 : w5.cell? ⟨g, 1, none⟩ = some (.int .i64 q) := (blk_cell hb5 1).trans rfl; have yf := blk_frozen hb5 1; clear hu5 hB5 hb5)
            go_roundg (gk - 1)
            case measure => omega
            case rel => exact ⟨q + 1, _, by omega, by omega, by omega, by simp; omega, Lib.hid ⟨d, by omega, by omega, HEe.out⟩, Lib.hid (QX.goto HQ5.out _)⟩
theorem lex_quotedS (g : Nat) (s : ByteArray) (p : Int) (R : Bool × Int × List UInt8) (hR : quoteL howS s 34 p (s.size + 1) (p + 1) [] = R) (ts : List Tok) (w0 w : World) (hT : TB w0) (h : LX w0 w g s p ts) (h0 : 0 ≤ p) (h1 : p < (s.size : Int)) (hs : s.size ≤ 100000) (hl : ts.length ≤ 1000000) :
    Calls Tryd.prog 30 #[.pointer (some ⟨g, 0, none⟩), .int .i64 3, .int .u8 34, .func (.func 31) #[] #[]] w fun e w' => e = .returned (.int .i64 (errQ R.1)) ∧ LX w0 w' g s R.2.1 (tsQ R 3 p ts) :=
  lex_quoted 31 howS (fun c W hW => lex_inString.calls c _ _ W hW (howS_some c)) howS_size (enters_of Tryd.func31 (by kernel_rfl) rfl) 3 34 g s p R hR ts w0 w hT h h0 h1 hs hl
theorem lex_quotedR (g : Nat) (s : ByteArray) (p : Int) (R : Bool × Int × List UInt8) (hR : quoteL howR s 47 p (s.size + 1) (p + 1) [] = R) (ts : List Tok) (w0 w : World) (hT : TB w0) (h : LX w0 w g s p ts) (h0 : 0 ≤ p) (h1 : p < (s.size : Int)) (hs : s.size ≤ 100000) (hl : ts.length ≤ 1000000) :
    Calls Tryd.prog 30 #[.pointer (some ⟨g, 0, none⟩), .int .i64 4, .int .u8 47, .func (.func 33) #[] #[]] w fun e w' => e = .returned (.int .i64 (errQ R.1)) ∧ LX w0 w' g s R.2.1 (tsQ R 4 p ts) :=
  lex_quoted 33 howR (fun c W hW => lex_inRegex.calls c _ _ W hW (howR_some c)) howR_size (enters_of Tryd.func33 (by kernel_rfl) rfl) 4 47 g s p R hR ts w0 w hT h h0 h1 hs hl
end Go.Proofs.YtpnkcihiliagcaaDoor.Pr
