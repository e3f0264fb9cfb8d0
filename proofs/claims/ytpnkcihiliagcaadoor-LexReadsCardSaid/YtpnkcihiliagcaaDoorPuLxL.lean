/- lex: Lex, walked by hand. -/
import Derived.Test.YtpnkcihiliagcaaDoorPuLx9
import Derived.OwnWalk
namespace Go.Proofs.YtpnkcihiliagcaaDoor.Pr
open Go Go.RowKit Go.Proofs.YtpnkcihiliagcaaDoorW.PrintWords Go.Proofs.YtpnkcihiliagcaaDoorW.PrintLast Go.Proofs.YtpnkcihiliagcaaDoorW.PrintMore

theorem run_lt {P : Int → Bool} {s : ByteArray} {p : Int} (h1 : p < (s.size : Int)) (h0 : 0 ≤ p) (hP : P (bt s p) = true) : p < runTo P s s.size p ∧ runTo P s s.size p ≤ s.size := by
  obtain ⟨n, hn⟩ : ∃ n, s.size = n + 1 := ⟨s.size - 1, by omega⟩
  have e : runTo P s s.size p = runTo P s n (p + 1) := by
    rw [hn, runTo, if_pos h1, if_pos hP]
  have := @runTo_le P s n (p + 1)
  omega
theorem num_lt {s : ByteArray} {p : Int} (h1 : p < (s.size : Int)) (h0 : 0 ≤ p) (h : dgt (bt s p) = true ∨ bt s p = 46) : p < numE s p ∧ numE s p ≤ s.size := by
  have hle := numE_le (s := s) (p := p) (by omega) h0
  refine ⟨?_, hle.2⟩
  unfold numE
  rcases h with h | h
  · have h2 := run_lt h1 h0 h
    have h3 := (@runTo_le dgt s s.size (runTo dgt s s.size p + 1)).1
    split <;> omega
  · have e : runTo dgt s s.size p = p := by
      obtain ⟨n, hn⟩ : ∃ n, s.size = n + 1 := ⟨s.size - 1, by omega⟩
      rw [hn, runTo, if_pos h1, if_neg (by rw [h]; decide)]
    have h3 := (@runTo_le dgt s s.size (p + 1)).1
    rw [e, if_pos h]
    omega
theorem bt_in {s : ByteArray} {p : Int} (h0 : 0 ≤ p) (h : bt s p ≠ 0) : p < (s.size : Int) := by
  unfold bt at h
  split at h
  · omega
  · exact absurd rfl h
theorem quote_lt (how : Int → ByteArray × Bool) (s : ByteArray) (fin a : Int) (k : Nat) : ∀ (q : Int) (out : List UInt8), (quoteL how s fin a k q out).1 = true → q < (quoteL how s fin a k q out).2.1 ∧ (quoteL how s fin a k q out).2.1 ≤ s.size := by
  induction k with
  | zero => intro q out h; simp [quoteL] at h
  | succ k ih =>
    intro q out
    unfold quoteL
    by_cases h1 : (s.size : Int) ≤ q ∨ bt s q = 10
    · rw [if_pos h1]; intro h; cases h
    · rw [if_neg h1]
      by_cases h2 : bt s q = fin
      · rw [if_pos h2]; intro _; simp only; omega
      · rw [if_neg h2]
        by_cases h3 : bt s q = 92
        · rw [if_pos h3]
          by_cases h4 : (how (bt s (q + 1))).2 = false ∨ (s.size : Int) ≤ q + 1
          · rw [if_pos h4]; intro h; cases h
          · rw [if_neg h4]; intro h; have := ih _ _ h; omega
        · rw [if_neg h3]; intro h; have := ih _ _ h; omega
/-- a step that goes well goes on, and lays one token at most -/
theorem next_ok {s : ByteArray} {p : Int} {ts : List Tok} (h0 : 0 ≤ p) (h1 : p < (s.size : Int)) (h : (nextE s p ts).1 = 0) : p < (nextE s p ts).2.1 ∧ (nextE s p ts).2.1 ≤ s.size ∧ (nextE s p ts).2.2.length ≤ ts.length + 1 := by
  have hq : ∀ how fin kind, errQ (quoteL how s fin p (s.size + 1) (p + 1) []).1 = 0 → p < (quoteL how s fin p (s.size + 1) (p + 1) []).2.1 ∧ (quoteL how s fin p (s.size + 1) (p + 1) []).2.1 ≤ s.size ∧ (tsQ (quoteL how s fin p (s.size + 1) (p + 1) []) kind p ts).length ≤ ts.length + 1 := by
    intro how fin kind h
    have hb : (quoteL how s fin p (s.size + 1) (p + 1) []).1 = true := by
      cases hc : (quoteL how s fin p (s.size + 1) (p + 1) []).1 with
      | true => rfl
      | false => rw [hc] at h; cases h
    have := quote_lt how s fin p (s.size + 1) (p + 1) [] hb
    refine ⟨by omega, by omega, ?_⟩
    unfold tsQ
    rw [if_pos hb]
    simp
  unfold nextE at h ⊢
  split at h
  · rw [if_pos ‹_›]; exact ⟨by simp only; omega, by simp only; omega, by simp⟩
  rw [if_neg ‹_›]
  split at h
  · rename_i hc
    rw [if_pos hc]
    have := @run_lt nnl s p h1 h0 (by rw [show bt s p = 35 by simpa using hc]; rfl)
    exact ⟨by simp only; omega, by simp only; omega, by simp⟩
  rw [if_neg ‹_›]
  split at h
  · rename_i hc
    rw [if_pos hc]
    have hc2 : bt s p = 92 ∧ bt s (p + 1) = 10 := by simpa using hc
    have := bt_in (s := s) (p := p + 1) (by omega) (by rw [hc2.2]; decide)
    exact ⟨by simp only; omega, by simp only; omega, by simp⟩
  rw [if_neg ‹_›]
  split at h
  · rw [if_pos ‹_›]; exact ⟨by simp only; omega, by simp only; omega, by simp⟩
  rw [if_neg ‹_›]
  split at h
  · rename_i hc
    rw [if_pos hc]
    have hc2 : dgt (bt s p) = true ∨ bt s p = 46 := by
      simp at hc
      rcases hc with hc | hc
      · exact .inl hc
      · exact .inr hc.1
    have := num_lt h1 h0 hc2
    exact ⟨by simp only; omega, by simp only; omega, by simp⟩
  rw [if_neg ‹_›]
  split at h
  · rename_i hc
    rw [if_pos hc]
    have := @run_lt ltd s p h1 h0 (by unfold ltd; rw [hc]; rfl)
    exact ⟨by simp only [wordE]; omega, by simp only [wordE]; omega, by simp⟩
  rw [if_neg ‹_›]
  split at h
  · rw [if_pos ‹_›]; exact hq howS 34 3 h
  rw [if_neg ‹_›]
  split at h
  · rw [if_pos ‹_›]; exact hq howR 47 4 h
  rw [if_neg ‹_›]
  unfold signE at h ⊢
  split at h
  · rename_i hc
    rw [if_pos hc]
    simp at hc
    exact ⟨by simp only; omega, by simp only; omega, by simp⟩
  rw [if_neg ‹_›]
  split at h
  · rw [if_pos ‹_›]; exact ⟨by simp only; omega, by simp only; omega, by simp⟩
  · cases h
/-- the tokens from p on, told so far: ts; the place of an error; the error -/
def lexE (s : ByteArray) : Nat → Int → List Tok → List Tok × Int × Int
  | 0, p, ts => (ts ++ [⟨0, ⟨#[]⟩, p⟩], 0, 0)
  | k + 1, p, ts =>
    if p < (s.size : Int) then
      (if (nextE s p ts).1 = 0 then lexE s k (nextE s p ts).2.1 (nextE s p ts).2.2 else ([], (nextE s p ts).2.1, (nextE s p ts).1))
    else (ts ++ [⟨0, ⟨#[]⟩, p⟩], 0, 0)
def lex_Lex.f (s : ByteArray) : Option (List Tok × Int × Int) := if s.size > 4000 then some ([], 0, 12) else some (lexE s (s.size + 1) 0 [])
theorem LX.new (w : World) (s : ByteArray) : LX w (w.alloc (.cells #[.string s, .int .i64 0, .slice none 0 0] 43)) w.heap.size s 0 [] :=
  ⟨⟨_, by have := heap_alloc_new w (.cells #[.string s, .int .i64 0, .slice none 0 0] 43); simpa using this, Kd.R_nil _ _ _ _ _⟩, Nat.le_refl _, (Below.refl _ _).alloc (Nat.le_refl _) _⟩
set_option maxHeartbeats 8000000 in
set_option maxRecDepth 100000 in
theorem lex_Lex.calls (a0 : ByteArray) (r1 : List Tok) (r2 r3 : Int) (w : World) (hT : TB w) (h : lex_Lex.f a0 = some (r1, r2, r3)) :
    Calls Tryd.prog 11 #[.string a0] w fun e w' => ∃ v, e = .returned (.tuple #[v, .int .i64 r2, .int .i64 r3]) ∧ Kd.R k29 29 w' w.heap.size (fun _ => True) v r1 ∧ Below w.heap.size w w' := by
  have hu := Tryd.underlying43
  unfold lex_Lex.f at h
  by_cases hbig : a0.size > 4000
  · rw [if_pos hbig] at h
    injection h with h
    injection h with h1 h
    injection h with h2 h3
    subst h1 h2 h3
    have hd : decide ((a0.size : Int) > 4000) = true := decide_eq_true (by omega)
    go_enter Tryd.func11, Tryd.ntmps11
    go_wp2
    go_ret3
    exact ⟨_, rfl, Kd.R_nil _ _ _ _ _, by repeat (first | exact Below.refl _ _ | apply pw_below_drewN | apply below_drew1)⟩
  · rw [if_neg hbig] at h
    have hR : lexE a0 (a0.size + 1) 0 [] = (r1, r2, r3) := by simpa using h
    clear h
    have hd : decide ((a0.size : Int) > 4000) = false := decide_eq_false (by omega)
    have HL0 := Lib.hid (LX.new w a0)
    go_enter Tryd.func11, Tryd.ntmps11
    go_wp2
    go_loopg [] (a0.size + 1) (fun k wr => ∃ (p : Int) (ts : List Tok), 0 ≤ p ∧ p ≤ a0.size ∧ (a0.size : Int) - p < k ∧ (ts.length : Int) ≤ p ∧ Hid (∃ d : Nat, (a0.size : Int) - p < d ∧ lexE a0 d p ts = (r1, r2, r3)) ∧ Hid (LX w wr w.heap.size a0 p ts))
    case atStart => exact ⟨0, [], by omega, by omega, by omega, by simp, Lib.hid ⟨a0.size + 1, by omega, hR⟩, HL0⟩
    case round =>
      clear HL0 hR
      obtain ⟨p, ts, hp0, hp1, hpk, hpl, HE, HL⟩ := hrel
      obtain ⟨v, hb, hRr⟩ := HL.out.ex
      have c0 : wr.cell? ⟨w.heap.size, 0, none⟩ = some (.string a0) := (blk_cell hb 0).trans rfl
      have c1 : wr.cell? ⟨w.heap.size, 1, none⟩ = some (.int .i64 p) := (blk_cell hb 1).trans rfl
      clear hb hRr
      obtain ⟨d', hdq, he⟩ := HE.out
      obtain ⟨d, rfl⟩ : ∃ d, d' = d + 1 := ⟨d' - 1, by omega⟩
      clear HE
      unfold lexE at he
      by_cases hlt : p < (a0.size : Int)
      · rw [if_pos hlt] at he
        have hdc : decide (p < (a0.size : Int)) = true := decide_eq_true hlt
        have hnx := next_ok (ts := ts) hp0 hlt
        have hcall := fun W hL => lex_next w.heap.size a0 p ts w W hT hL hp0 hlt (by omega) (by omega)
        generalize nextE a0 p ts = X at he hnx hcall
        obtain ⟨er, q, ts2⟩ := X
        simp only at he hnx hcall
        have HC := Lib.hid hcall
        clear hcall
        by_cases her : er = 0
        · subst her
          have hnx := hnx rfl
          rw [if_pos rfl] at he
          have HEe := Lib.hid he
          clear he
          go_wp2_with (go_at_call 17; (with_reducible refine (HC.out _ (by repeat (first | exact HL.out | apply LX.drewN | apply LX.drew))).mono ?_); rintro e w2 ⟨rfl, hL2⟩; have HL2 := Lib.hid hL2; clear hL2)
          go_roundg (gk - 1)
          case measure => omega
          case rel => exact ⟨q, ts2, by omega, by omega, by omega, by omega, Lib.hid ⟨d, by omega, HEe.out⟩, HL2⟩
        · have herb : (er != 0) = true := by simpa using her
          rw [if_neg her] at he
          injection he with h1 he
          injection he with h2 h3
          subst h1 h2 h3
          clear her hnx
          go_wp2_with (go_at_call 17; (with_reducible refine (HC.out _ (by repeat (first | exact HL.out | apply LX.drewN | apply LX.drew))).mono ?_); rintro e w2 ⟨rfl, hL2⟩; have HL2 := Lib.hid hL2; obtain ⟨v2, hb2, _⟩ := HL2.out.ex; have z1 : w2.cell? ⟨w.heap.size, 1, none⟩ = some (.int .i64 q) := (blk_cell hb2 1).trans rfl; clear hb2 hL2)
          go_quiet (fail)
          go_wp2
          go_ret3
          exact ⟨_, rfl, Kd.R_nil _ _ _ _ _, by have := HL2.out.bel; repeat (first | exact this | apply pw_below_drewN | apply below_drew1)⟩
      · rw [if_neg hlt] at he
        have hdc : decide (p < (a0.size : Int)) = false := decide_eq_false hlt
        injection he with h1 he
        injection he with h2 h3
        subst h1 h2 h3
        go_wp2_with (go_at_call 18; (with_reducible refine (lex_put w.heap.size a0 p ts ⟨0, ⟨#[]⟩, p⟩ w _ (by repeat (first | exact HL.out | apply LX.drewN | apply LX.drew)) (by omega)).mono ?_); rintro e w2 ⟨rfl, hL2⟩; have HL2 := Lib.hid hL2; obtain ⟨v2, hb2, hR2⟩ := HL2.out.ex; have z2 : w2.cell? ⟨w.heap.size, 2, none⟩ = some v2 := (blk_cell hb2 2).trans rfl; have HR2 := Lib.hid hR2; clear hb2 hL2 hR2)
        go_ret3
        exact ⟨_, rfl, Kd.R_lower HR2.out (by omega), HL2.out.bel⟩
end Go.Proofs.YtpnkcihiliagcaaDoor.Pr
