/- A text has one of two patterns just if it has that of both with | between: the law, walked by hand. -/
import Derived.Test.YthlffghlkggimaaPuMtA
import Derived.Test.YthlffghlkggimaaPuMtE
import Derived.Test.YthlffghlkggimaaPr10
set_option linter.unusedVariables false
set_option linter.unusedSimpArgs false
namespace Go.Proofs.Ythlffghlkggimaa.Pr
open Go Go.RowKit Go.Proofs.YthlffghlkggimaaW.PrintWords Go.Proofs.YthlffghlkggimaaW.PrintLast Go.Proofs.YthlffghlkggimaaW.PrintMore
abbrev cutL (a : ByteArray) (n : Nat) : List UInt8 := a.data.toList.take n
theorem cut_calls (a : ByteArray) (n : Nat) (w : World) : Calls Try.prog 11 #[.string a, .int .i64 (n : Int)] w fun e w' => e = .returned (.string (B (cutL a n))) ∧ Below w.heap.size w w' :=
 (scribelaw01_Cut.calls a n _ w ⟨rfl⟩ (cut_B a n)).mono fun e w' ⟨h, hd⟩ => ⟨h, hd.below⟩
theorem in_det {n : RNode} {t : ByteArray} {a b : Bool} (h : InS n t a) (k : InS n t b) : a = b := by
 apply Bool.eq_iff_iff.2
 exact h.trans k.symm
theorem in_val (n : RNode) (t : ByteArray) : ∃ b, InS n t b := by
 by_cases h : ∃ s e, s ≤ t.size ∧ Mt (chB t) t.size n s e
 ·exact ⟨true, by unfold InS; exact ⟨fun _ => h, fun _ => rfl⟩⟩
 ·refine ⟨false, ?_⟩
  unfold InS
  constructor
  ·intro hf; cases hf
  ·intro h'; exact absurd h' h
theorem in_or {q n m : RNode} {t : ByteArray} {a b : Bool} (h : ∀ (ch : Nat → Nat) (N i j : Nat), Mt ch N q i j ↔ Mt ch N n i j ∨ Mt ch N m i j) (ha : InS n t a) (hb : InS m t b) : InS q t (a || b) := by
 unfold InS at ha hb ⊢
 rw [Bool.or_eq_true, ha, hb]
 constructor
 ·rintro (⟨s, e, h1, h2⟩ | ⟨s, e, h1, h2⟩)
  ·exact ⟨s, e, h1, (h _ _ _ _).2 (.inl h2)⟩
  ·exact ⟨s, e, h1, (h _ _ _ _).2 (.inr h2)⟩
 ·rintro ⟨s, e, h1, h2⟩
  rcases (h _ _ _ _).1 h2 with h2 | h2
  ·exact .inl ⟨s, e, h1, h2⟩
  ·exact .inr ⟨s, e, h1, h2⟩
theorem Of_any (s : ByteArray) (hs : (s.size : Int) ≤ 300) (w : World) : Calls Try.prog 12 #[.string s] w fun e w' => ∃ pv bb ee, e = .returned (.tuple #[pv, .int .i64 bb, .int .i64 ee]) ∧ Below w.heap.size w w' := by
 obtain ⟨n, s', hR, _⟩ := alt_total s (by omega)
 by_cases he : s'.e = 0
 ·refine (Of_ok s hs hR he w).mono ?_
  rintro e w' ⟨g, rfl, _, hb⟩
  exact ⟨_, _, _, rfl, hb⟩
 ·refine (Of_bad s hs hR he w).mono ?_
  rintro e w' ⟨rfl, hb⟩
  exact ⟨_, _, _, rfl, hb⟩
def scribelaw10_MatchEither.f (k : Nat) (a0 a1 a2 : ByteArray) : Option Bool := some true
theorem MatchEither_ev (a0 a1 a2 : ByteArray) (_h0 : a0.size ≤ 140737488351232) (_h1 : a1.size ≤ 140737488351232) (_h2 : a2.size ≤ 140737488351232) : Ev (fun k => scribelaw10_MatchEither.f k a0 a1 a2) true := ⟨0, fun _ _ => rfl⟩
set_option maxHeartbeats 8000000 in
set_option maxRecDepth 100000 in
theorem scribelaw10_MatchEither.calls (k : Nat) (a0 a1 a2 : ByteArray) (r : Bool) (w : World) (hT : TB w) (h : scribelaw10_MatchEither.f k a0 a1 a2 = some r) :
  Calls Try.prog 6 #[.string a0, .string a1, .string a2] w fun e w' => e = .returned (.bool r) ∧ Below w.heap.size w w' := by
 obtain rfl : true = r := Option.some.inj h
 clear h
 have HCUT := Lib.hid cut_calls
 have HAW := Lib.hid awake10_calls
 generalize hu : cutL a0 20 = u
 generalize hv : cutL a1 20 = v
 generalize ht : cutL a2 30 = t
 have HU := Lib.hid hu
 have HV := Lib.hid hv
 have HT := Lib.hid ht
 have hul : u.length ≤ 20 := by rw [← hu]; exact List.length_take_le _ _
 have hvl : v.length ≤ 20 := by rw [← hv]; exact List.length_take_le _ _
 have htl : t.length ≤ 30 := by rw [← ht]; exact List.length_take_le _ _
 clear hu hv ht hT
 have c0 := Lib.hid (fun W => by have h := HCUT.out a0 20 W; rw [HU.out] at h; exact h : ∀ W, Calls Try.prog 11 #[.string a0, .int .i64 20] W fun e w' => e = .returned (.string (B u)) ∧ Below W.heap.size W w')
 have c1 := Lib.hid (fun W => by have h := HCUT.out a1 20 W; rw [HV.out] at h; exact h : ∀ W, Calls Try.prog 11 #[.string a1, .int .i64 20] W fun e w' => e = .returned (.string (B v)) ∧ Below W.heap.size W w')
 have c2 := Lib.hid (fun W => by have h := HCUT.out a2 30 W; rw [HT.out] at h; exact h : ∀ W, Calls Try.prog 11 #[.string a2, .int .i64 30] W fun e w' => e = .returned (.string (B t)) ∧ Below W.heap.size W w')
 obtain ⟨n, su, hRu, _⟩ := alt_total (B u) (by rw [B_size]; omega)
 obtain ⟨m, sv, hRv, _⟩ := alt_total (B v) (by rw [B_size]; omega)
 have hsu : ((B u).size : Int) ≤ 300 := by rw [B_size]; omega
 have hsv : ((B v).size : Int) ≤ 300 := by rw [B_size]; omega
 by_cases heu : su.e = 0
 ·have HOU := Lib.hid (fun W => Of_ok (B u) hsu hRu heu W)
  by_cases hev : sv.e = 0
  ·have HOV := Lib.hid (fun W => Of_ok (B v) hsv hRv hev W)
   obtain ⟨q, sq, hRq, heq, hmet⟩ := either_parse u v (by omega) hRu heu hRv hev
   have hsq : ((B (u ++ 124 :: v)).size : Int) ≤ 300 := by rw [B_size]; simp; omega
   have HOQ := Lib.hid (fun W => Of_ok (B (u ++ 124 :: v)) hsq hRq heq W)
   have hjoin : B u ++ (⟨#[124]⟩ : ByteArray) ++ B v = B (u ++ 124 :: v) := by
    rw [B_lit [124], B_append, B_append]
    simp
   have hcn := cnt_of (by omega) hRu heu
   have hcm := cnt_of (by omega) hRv hev
   have hcq := cnt_of (by omega) hRq heq
   have hts : (B t).size < 1000000 := by rw [B_size]; omega
   obtain ⟨bu, hbu⟩ := in_val n (B t)
   obtain ⟨bv, hbv⟩ := in_val m (B t)
   have hbq := in_or hmet hbu hbv
   have HIU : Hid (∀ W g, IsP W g n → Calls Try.prog 17 #[.pointer (some ⟨g, 0, none⟩), .string (B t)] W fun e w' => e = .returned (.bool bu) ∧ Below W.heap.size W w') := Lib.hid (fun W g hI => by
    obtain ⟨ok, h, hc⟩ := In_calls hI (wf_R hRu trivial) (okT_R hRu trivial) (by omega) hts
    rw [in_det h hbu] at hc
    exact hc)
   have HIV : Hid (∀ W g, IsP W g m → Calls Try.prog 17 #[.pointer (some ⟨g, 0, none⟩), .string (B t)] W fun e w' => e = .returned (.bool bv) ∧ Below W.heap.size W w') := Lib.hid (fun W g hI => by
    obtain ⟨ok, h, hc⟩ := In_calls hI (wf_R hRv trivial) (okT_R hRv trivial) (by omega) hts
    rw [in_det h hbv] at hc
    exact hc)
   have HIQ : Hid (∀ W g, IsP W g q → Calls Try.prog 17 #[.pointer (some ⟨g, 0, none⟩), .string (B t)] W fun e w' => e = .returned (.bool (bu || bv)) ∧ Below W.heap.size W w') := Lib.hid (fun W g hI => by
    obtain ⟨ok, h, hc⟩ := In_calls hI (wf_R hRq trivial) (okT_R hRq trivial) (by omega) hts
    rw [in_det h hbq] at hc
    exact hc)
   clear hRu hRv hRq hmet hcn hcm hcq hbu hbv hbq
   cases bu with
   | true =>
    have hor : (true || bv) = true := rfl
    rw [hor] at HIQ
    go_enter Try.func6, Try.ntmps6
    go_wp2_with (first
     | (go_at_call 11; (with_reducible refine (c0.out _).mono ?_); rintro e w1 ⟨rfl, hb⟩; have HB1 := Lib.hid hb; clear hb)
     | (go_at_call 11; (with_reducible refine (c1.out _).mono ?_); rintro e w2 ⟨rfl, hb⟩; have HB2 := Lib.hid (HB1.out.trans (hb.mono HB1.out.size)); clear hb)
     | (go_at_call 11; (with_reducible refine (c2.out _).mono ?_); rintro e w3 ⟨rfl, hb⟩; have HB3 := Lib.hid (HB2.out.trans (hb.mono HB2.out.size)); clear hb)
     | (go_at_call 12; (try rw [hjoin]); (with_reducible refine (HOQ.out _).mono ?_); rintro e w6 ⟨gq, rfl, hp, hb⟩; have HPU6 := Lib.hid (HPU5.out.below hb); have HPV6 := Lib.hid (HPV.out.below hb); have HPQ := Lib.hid hp; have HB6 := Lib.hid (HB5.out.trans (hb.mono HB5.out.size)); clear hp hb)
     | (go_at_call 12; (with_reducible refine (HOV.out _).mono ?_); rintro e w5 ⟨gv, rfl, hp, hb⟩; have HPU5 := Lib.hid (HPU.out.below hb); have HPV := Lib.hid hp; have HB5 := Lib.hid (HB4.out.trans (hb.mono HB4.out.size)); clear hp hb)
     | (go_at_call 12; (with_reducible refine (HOU.out _).mono ?_); rintro e w4 ⟨gu, rfl, hp, hb⟩; have HPU := Lib.hid hp; have HB4 := Lib.hid (HB3.out.trans (hb.mono HB3.out.size)); clear hp hb)
     | (go_at_call 14; refine (HAW.out _).mono ?_; rintro e w7 ⟨rfl, hb⟩; have HPU7 := Lib.hid (HPU6.out.below hb); have HPV7 := Lib.hid (HPV6.out.below hb); have HPQ7 := Lib.hid (HPQ.out.below hb); have HB7 := Lib.hid (HB6.out.trans (hb.mono HB6.out.size)); clear hb)
     | (go_at_call 17; (with_reducible refine (HIQ.out _ _ HPQ7.out).mono ?_); rintro e w8 ⟨rfl, hb⟩; have HPU8 := Lib.hid (HPU7.out.below hb); have HPV8 := Lib.hid (HPV7.out.below hb); have HB8 := Lib.hid (HB7.out.trans (hb.mono HB7.out.size)); clear hb)
     | (go_at_call 17; (with_reducible refine (HIU.out _ _ HPU8.out).mono ?_); rintro e w9 ⟨rfl, hb⟩; have HPV9 := Lib.hid (HPV8.out.below hb); have HB9 := Lib.hid (HB8.out.trans (hb.mono HB8.out.size)); clear hb)
     | (go_at_call 17; (with_reducible refine (HIV.out _ _ HPV9.out).mono ?_); rintro e wa ⟨rfl, hb⟩; have HBA := Lib.hid (HB9.out.trans (hb.mono HB9.out.size)); clear hb))
    go_ret
    exact ⟨rfl, HB9.out⟩
   | false =>
    have hor : (false || bv) = bv := rfl
    rw [hor] at HIQ
    go_enter Try.func6, Try.ntmps6
    go_wp2_with (first
     | (go_at_call 11; (with_reducible refine (c0.out _).mono ?_); rintro e w1 ⟨rfl, hb⟩; have HB1 := Lib.hid hb; clear hb)
     | (go_at_call 11; (with_reducible refine (c1.out _).mono ?_); rintro e w2 ⟨rfl, hb⟩; have HB2 := Lib.hid (HB1.out.trans (hb.mono HB1.out.size)); clear hb)
     | (go_at_call 11; (with_reducible refine (c2.out _).mono ?_); rintro e w3 ⟨rfl, hb⟩; have HB3 := Lib.hid (HB2.out.trans (hb.mono HB2.out.size)); clear hb)
     | (go_at_call 12; (try rw [hjoin]); (with_reducible refine (HOQ.out _).mono ?_); rintro e w6 ⟨gq, rfl, hp, hb⟩; have HPU6 := Lib.hid (HPU5.out.below hb); have HPV6 := Lib.hid (HPV.out.below hb); have HPQ := Lib.hid hp; have HB6 := Lib.hid (HB5.out.trans (hb.mono HB5.out.size)); clear hp hb)
     | (go_at_call 12; (with_reducible refine (HOV.out _).mono ?_); rintro e w5 ⟨gv, rfl, hp, hb⟩; have HPU5 := Lib.hid (HPU.out.below hb); have HPV := Lib.hid hp; have HB5 := Lib.hid (HB4.out.trans (hb.mono HB4.out.size)); clear hp hb)
     | (go_at_call 12; (with_reducible refine (HOU.out _).mono ?_); rintro e w4 ⟨gu, rfl, hp, hb⟩; have HPU := Lib.hid hp; have HB4 := Lib.hid (HB3.out.trans (hb.mono HB3.out.size)); clear hp hb)
     | (go_at_call 14; refine (HAW.out _).mono ?_; rintro e w7 ⟨rfl, hb⟩; have HPU7 := Lib.hid (HPU6.out.below hb); have HPV7 := Lib.hid (HPV6.out.below hb); have HPQ7 := Lib.hid (HPQ.out.below hb); have HB7 := Lib.hid (HB6.out.trans (hb.mono HB6.out.size)); clear hb)
     | (go_at_call 17; (with_reducible refine (HIQ.out _ _ HPQ7.out).mono ?_); rintro e w8 ⟨rfl, hb⟩; have HPU8 := Lib.hid (HPU7.out.below hb); have HPV8 := Lib.hid (HPV7.out.below hb); have HB8 := Lib.hid (HB7.out.trans (hb.mono HB7.out.size)); clear hb)
     | (go_at_call 17; (with_reducible refine (HIU.out _ _ HPU8.out).mono ?_); rintro e w9 ⟨rfl, hb⟩; have HPV9 := Lib.hid (HPV8.out.below hb); have HB9 := Lib.hid (HB8.out.trans (hb.mono HB8.out.size)); clear hb)
     | (go_at_call 17; (with_reducible refine (HIV.out _ _ HPV9.out).mono ?_); rintro e wa ⟨rfl, hb⟩; have HBA := Lib.hid (HB9.out.trans (hb.mono HB9.out.size)); clear hb))
    go_ret
    exact ⟨by simp, HBA.out⟩
  ·have HOV := Lib.hid (fun W => Of_bad (B v) hsv hRv hev W)
   have hne : (sv.e != 0) = true := by simpa using hev
   clear hRu hRv
   go_enter Try.func6, Try.ntmps6
   go_wp2_with (first
    | (go_at_call 11; (with_reducible refine (c0.out _).mono ?_); rintro e w1 ⟨rfl, hb⟩; have HB1 := Lib.hid hb; clear hb)
    | (go_at_call 11; (with_reducible refine (c1.out _).mono ?_); rintro e w2 ⟨rfl, hb⟩; have HB2 := Lib.hid (HB1.out.trans (hb.mono HB1.out.size)); clear hb)
    | (go_at_call 11; (with_reducible refine (c2.out _).mono ?_); rintro e w3 ⟨rfl, hb⟩; have HB3 := Lib.hid (HB2.out.trans (hb.mono HB2.out.size)); clear hb)
    | (go_at_call 12; (with_reducible refine (HOV.out _).mono ?_); rintro e w5 ⟨rfl, hb⟩; have HB5 := Lib.hid (HB4.out.trans (hb.mono HB4.out.size)); clear hb)
    | (go_at_call 12; (with_reducible refine (HOU.out _).mono ?_); rintro e w4 ⟨gu, rfl, hp, hb⟩; have HB4 := Lib.hid (HB3.out.trans (hb.mono HB3.out.size)); clear hp hb)
    | (go_at_call 14; refine (HAW.out _).mono ?_; rintro e w7 ⟨rfl, hb⟩; have HB7 := Lib.hid (HB5.out.trans (hb.mono HB5.out.size)); clear hb))
   go_ret
   exact ⟨rfl, HB7.out⟩
 ·have HOU := Lib.hid (fun W => Of_bad (B u) hsu hRu heu W)
  have HOV := Lib.hid (fun W => Of_any (B v) hsv W)
  have hne : (su.e != 0) = true := by simpa using heu
  clear hRu hRv
  go_enter Try.func6, Try.ntmps6
  go_wp2_with (first
    | (go_at_call 11; (with_reducible refine (c0.out _).mono ?_); rintro e w1 ⟨rfl, hb⟩; have HB1 := Lib.hid hb; clear hb)
    | (go_at_call 11; (with_reducible refine (c1.out _).mono ?_); rintro e w2 ⟨rfl, hb⟩; have HB2 := Lib.hid (HB1.out.trans (hb.mono HB1.out.size)); clear hb)
    | (go_at_call 11; (with_reducible refine (c2.out _).mono ?_); rintro e w3 ⟨rfl, hb⟩; have HB3 := Lib.hid (HB2.out.trans (hb.mono HB2.out.size)); clear hb)
    | (go_at_call 12; (with_reducible refine (HOU.out _).mono ?_); rintro e w4 ⟨rfl, hb⟩; have HB4 := Lib.hid (HB3.out.trans (hb.mono HB3.out.size)); clear hb)
    | (go_at_call 12; (with_reducible refine (HOV.out _).mono ?_); rintro e w5 ⟨pv, pb, pe, rfl, hb⟩; have HB5 := Lib.hid (HB4.out.trans (hb.mono HB4.out.size)); clear hb)
    | (go_at_call 14; refine (HAW.out _).mono ?_; rintro e w7 ⟨rfl, hb⟩; have HB7 := Lib.hid (HB5.out.trans (hb.mono HB5.out.size)); clear hb))
  go_ret
  exact ⟨rfl, HB7.out⟩
end Go.Proofs.Ythlffghlkggimaa.Pr
