/- What is found lies in the text and is all of the pattern: the law, walked by hand (written by tools/mkwhole.py). -/
import Derived.Test.YthlffghlkggimaaPuMtW
import Derived.Deep.LoopGhost
import Derived.Test.YthlffghlkggimaaPr10
set_option linter.unusedVariables false
set_option linter.unusedSimpArgs false
namespace Go.Proofs.Ythlffghlkggimaa.Pr
open Go Go.RowKit Go.Proofs.YthlffghlkggimaaW.PrintWords Go.Proofs.YthlffghlkggimaaW.PrintLast Go.Proofs.YthlffghlkggimaaW.PrintMore

abbrev cutL (a : ByteArray) (n : Nat) : List UInt8 := a.data.toList.take n
theorem cut_calls (a : ByteArray) (n : Nat) (w : World) : Calls Try.prog 11 #[.string a, .int .i64 (n : Int)] w fun e w' => e = .returned (.string (B (cutL a n))) ∧ Below w.heap.size w w' :=
  (scribelaw01_Cut.calls a n _ w ⟨rfl⟩ (cut_B a n)).mono fun e w' ⟨h, hd⟩ => ⟨h, hd.below⟩
theorem ext_B (t : List UInt8) (a b : Nat) : (B t).extract a b = B ((t.drop a).take (b - a)) := by
  apply B_ext
  rw [Lib.extract_data]
  rfl
theorem pattern_calls (a : ByteArray) (w : World) : Calls Try.prog 10 #[.string a] w fun e w' => e = .returned (.string (B (cutL a 40))) ∧ Below w.heap.size w w' :=
  (scribelaw10_Pattern.calls a _ w ⟨rfl⟩ (by have h := cut_B a 40; unfold scribelaw10_Pattern.f; rw [show (40 : Int) = ((40 : Nat) : Int) from rfl, h]; rfl)).mono fun e w' ⟨h, hd⟩ => ⟨h, hd.below⟩
theorem sign_or (u : List UInt8) : (∀ i : Int, 0 ≤ i → i < (u.length : Int) → bt (B u) i ≠ 94 ∧ bt (B u) i ≠ 36) ∨ ∃ k : Int, 0 ≤ k ∧ k < (u.length : Int) ∧ (∀ i : Int, 0 ≤ i → i < k → bt (B u) i ≠ 94 ∧ bt (B u) i ≠ 36) ∧ (bt (B u) k = 94 ∨ bt (B u) k = 36) := by
  have key : ∀ m : Nat, m ≤ u.length → (∀ i : Int, 0 ≤ i → i < (m : Int) → bt (B u) i ≠ 94 ∧ bt (B u) i ≠ 36) ∨ ∃ k : Int, 0 ≤ k ∧ k < (m : Int) ∧ (∀ i : Int, 0 ≤ i → i < k → bt (B u) i ≠ 94 ∧ bt (B u) i ≠ 36) ∧ (bt (B u) k = 94 ∨ bt (B u) k = 36) := by
    intro m
    induction m with
    | zero => intro _; exact .inl (fun i h0 h1 => by omega)
    | succ m ih =>
      intro hm
      rcases ih (by omega) with h | ⟨k, h0, h1, h2, h3⟩
      · by_cases hb : bt (B u) (m : Int) = 94 ∨ bt (B u) (m : Int) = 36
        · exact .inr ⟨m, by omega, by omega, h, hb⟩
        · refine .inl (fun i h0 h1 => ?_)
          by_cases e : i = (m : Int)
          · subst e; omega
          · exact h i h0 (by omega)
      · exact .inr ⟨k, h0, by omega, h2, h3⟩
  exact key _ (Nat.le_refl _)
/-- what is found is met whole in its own part of the text -/
theorem whole_in {n : RNode} {t : List UInt8} {s e : Nat} (hse : s ≤ e) (het : e ≤ t.length) (hm : Mt (chB (B t)) (B t).size n s e) (hna : NoA n) {met : Bool}
    (hi : InS (wholeN n) ((B t).extract s e) met) : met = true := by
  refine hi.2 ⟨0, e - s, Nat.zero_le _, ?_⟩
  rw [whole_met, ext_B]
  have hsz : (B ((t.drop s).take (e - s))).size = e - s := by rw [B_size]; simp; omega
  rw [hsz]
  have hch : ∀ k, k < e - s → chB (B t) (s + k) = chB (B ((t.drop s).take (e - s))) k := fun k hk => by
    unfold chB
    rw [bt_B t (s + k) (by omega), bt_B _ k (by simp; omega)]
    simp
  refine ⟨rfl, rfl, ?_⟩
  refine (mt_shift (ch := chB (B t)) (N := t.length) (a := s) (by omega) hch n hna 0 (e - s) (Nat.le_refl _)).1 ?_
  rw [B_size] at hm
  rw [Nat.add_zero, show s + (e - s) = e by omega]
  exact hm
def scribelaw10_MatchWhole.f (k : Nat) (a0 a1 : ByteArray) (a2 : Int) : Option Bool := some true
theorem MatchWhole_ev (a0 a1 : ByteArray) (a2 : Int) (_h0 : a0.size ≤ 140737488351232) (_h1 : a1.size ≤ 140737488351232) (_h2 : (Lit.int .i64 a2).wf = true) : Ev (fun k => scribelaw10_MatchWhole.f k a0 a1 a2) true := ⟨0, fun _ _ => rfl⟩
set_option maxHeartbeats 8000000 in
set_option maxRecDepth 100000 in
theorem scribelaw10_MatchWhole.calls (k : Nat) (a0 a1 : ByteArray) (a2 : Int) (r : Bool) (w : World) (hT : TB w) (h : scribelaw10_MatchWhole.f k a0 a1 a2 = some r) :
    Calls Try.prog 4 #[.string a0, .string a1, .int .i64 a2] w fun e w' => e = .returned (.bool r) ∧ Below w.heap.size w w' := by
  obtain rfl : true = r := Option.some.inj h
  clear h hT
  have HAW := Lib.hid awake10_calls
  have HCUT := Lib.hid cut_calls
  generalize hu : cutL a0 40 = u
  generalize ht : cutL a1 40 = t
  have HU := Lib.hid hu
  have HT := Lib.hid ht
  have hul : u.length ≤ 40 := by rw [← hu]; exact List.length_take_le _ _
  have htl : t.length ≤ 40 := by rw [← ht]; exact List.length_take_le _ _
  clear hu ht
  have c0 := Lib.hid (fun W => by have h := pattern_calls a0 W; rw [HU.out] at h; exact h : ∀ W, Calls Try.prog 10 #[.string a0] W fun e w' => e = .returned (.string (B u)) ∧ Below W.heap.size W w')
  have c1 := Lib.hid (fun W => by have h := HCUT.out a1 40 W; rw [HT.out] at h; exact h : ∀ W, Calls Try.prog 11 #[.string a1, .int .i64 40] W fun e w' => e = .returned (.string (B t)) ∧ Below W.heap.size W w')
  have hsu : (B u).size = u.length := B_size u
  have hst : (B t).size = t.length := B_size t
  have hsw : ((B (whole u)).size : Int) ≤ 300 := by rw [B_size, whole_len]; omega
  have hjoin : (⟨#[94, 40]⟩ : ByteArray) ++ B u ++ (⟨#[41, 36]⟩ : ByteArray) = B (whole u) := by
    rw [B_lit [94, 40], B_lit [41, 36], B_append, B_append]
    simp
  rcases sign_or u with hall | ⟨kk, hk0, hk1, hgood, hcb⟩
  · obtain ⟨n, s', hR, _⟩ := alt_total (B u) (by rw [hsu]; omega)
    have HALL := Lib.hid hall
    by_cases he : s'.e = 0
    · have HOU := Lib.hid (fun W => Of_ok (B u) (by rw [hsu]; omega) hR he W)
      have hna : NoA n := noA_R (fun p h0 h1 => hall p h0 (by rw [hsu] at h1; exact h1)) hR trivial
      have hcn := cnt_of (by rw [hsu]; omega) hR he
      have HFI := Lib.hid (fun W g (hI : IsP W g n) => Find_calls hI (wf_R hR trivial) (okT_R hR trivial) (by rw [hsu] at hcn; omega) (t := B t) (by rw [hst]; omega) a2)
      have HNA := Lib.hid hna
      have hwp := whole_parse u hR he (by omega)
      clear hR hcn hna
      rcases hwp with ⟨s2, hW, he2⟩ | ⟨q, s2, hW, h14⟩
      · have HOW := Lib.hid (fun W => Of_ok (B (whole u)) hsw hW he2 W)
        have hcw := cnt_of (by omega) hW he2
        have HIN := Lib.hid (fun W g (hI : IsP W g (wholeN n)) (S : ByteArray) (hS : S.size < 1000000) => In_calls hI (wf_R hW trivial) (okT_R hW trivial) (by omega) (t := S) hS)
        clear hW hcw hall
        go_enter Try.func4, Try.ntmps4
        go_wp2_with (first
          | (go_at_call 10; (with_reducible refine (c0.out _).mono ?_); rintro e w1 ⟨rfl, hb⟩; have HB1 := Lib.hid hb; clear hb)
          | (go_at_call 11; (with_reducible refine (c1.out _).mono ?_); rintro e w2 ⟨rfl, hb⟩; have HB2 := Lib.hid (HB1.out.trans (hb.mono HB1.out.size)); clear hb))
        go_loopg [7] (u.length + 1) (fun gk v7 wr => ∃ i : Int, v7 = .int .i64 i ∧ 0 ≤ i ∧ i ≤ (u.length : Int) ∧ (u.length : Int) < gk + i ∧ Hid (Below w.heap.size w wr))
        case atStart => exact ⟨0, rfl, by omega, by omega, by omega, HB2⟩
        case round =>
          obtain ⟨i, rfl, hi0, hi, hgk, HBR⟩ := hrel
          by_cases hlt : i < (u.length : Int)
          · have hd1 : decide (i < (u.length : Int)) = true := decide_eq_true (by omega)
            have hbt := bt_at (B u) i (by rw [hsu]; omega)
            have hcv := HALL.out i hi0 hlt
            generalize bt (B u) i = c at hbt hcv
            have e1 : decide (c = 94) = false := decide_eq_false hcv.1
            have e2 : decide (c = 36) = false := decide_eq_false hcv.2
            have e3 : (c == 94) = false := beq_eq_false_iff_ne.2 hcv.1
            have e4 : (c == 36) = false := beq_eq_false_iff_ne.2 hcv.2
            go_wp2
            go_roundg (gk - 1)
            case measure => omega
            case rel => exact ⟨i + 1, by (simp <;> (unfold wrap64; omega)), by omega, by omega, by omega, HBR⟩
          · obtain rfl : i = (u.length : Int) := by omega
            have hd1 : decide ((u.length : Int) < (u.length : Int)) = false := by simp
            go_wp2_with (first
              | (go_at_call 12; (with_reducible refine (HOU.out _).mono ?_); rintro e w3 ⟨gu, rfl, hp, hb⟩; have HPU := Lib.hid hp; have HB3 := Lib.hid (HBR.out.trans (hb.mono HBR.out.size)); clear hp hb)
              | (go_at_call 12; (try rw [hjoin]); (with_reducible refine (HOW.out _).mono ?_); rintro e w4 ⟨gq, rfl, hp, hb⟩; have HPU4 := Lib.hid (HPU.out.below hb); have HPQ := Lib.hid hp; have HB4 := Lib.hid (HB3.out.trans (hb.mono HB3.out.size)); clear hp hb))
            obtain ⟨a, b, ok, hm, hf⟩ := HFI.out _ _ HPU4.out
            have HF := Lib.hid hf
            clear hf
            rcases hm with ⟨rfl, rfl, rfl, _⟩ | ⟨rfl, s, e, ha, hb, h3, h4, h5, h6, h7, _⟩
            · go_wp2_with (first
                | (go_at_call 15; (with_reducible refine HF.out.mono ?_); rintro e w5 ⟨rfl, hb⟩; have HB5 := Lib.hid (HB4.out.trans (hb.mono HB4.out.size)); clear hb)
                | (go_at_call 14; refine (HAW.out _).mono ?_; rintro e w7 ⟨rfl, hb⟩; have HB7 := Lib.hid (HB5.out.trans (hb.mono HB5.out.size)); clear hb))
              go_ret
              exact ⟨rfl, HB7.out⟩
            · have hsl : Hid (∀ W, IsP W gq (wholeN n) → Calls Try.prog 17 #[.pointer (some ⟨gq, 0, none⟩), .string ((B t).extract a.toNat b.toNat)] W fun e w' => e = .returned (.bool true) ∧ Below W.heap.size W w') := Lib.hid (fun W hI => by
                obtain ⟨met, hmet, hin⟩ := HIN.out W gq hI ((B t).extract a.toNat b.toNat) (by rw [ext_B, B_size]; simp; omega)
                rw [ha, hb] at hmet
                simp only [Int.toNat_natCast] at hmet
                rw [whole_in h5 (by rw [B_size] at h6; exact h6) h7 HNA.out hmet] at hin
                exact hin)
              have hfa : a2 ≤ a := by omega
              have hab : a ≤ b := by omega
              have hbt : b ≤ (t.length : Int) := by rw [B_size] at h6; omega
              have ha0 : 0 ≤ a := by omega
              clear ha hb h3 h4 h5 h6 h7
              have d1 : decide (a ≥ a2) = true := decide_eq_true hfa
              have d2 : decide (b ≥ a) = true := decide_eq_true hab
              have d3 : decide (b ≤ (t.length : Int)) = true := decide_eq_true hbt
              go_wp2_with (first
                | (go_at_call 15; (with_reducible refine HF.out.mono ?_); rintro e w5 ⟨rfl, hb⟩; have HPQ5 := Lib.hid (HPQ.out.below hb); have HB5 := Lib.hid (HB4.out.trans (hb.mono HB4.out.size)); clear hb)
                | (go_at_call 14; refine (HAW.out _).mono ?_; rintro e w7 ⟨rfl, hb⟩; have HPQ7 := Lib.hid (HPQ5.out.below hb); have HB7 := Lib.hid (HB5.out.trans (hb.mono HB5.out.size)); clear hb)
                | (go_at_call 17; (with_reducible refine (hsl.out _ HPQ7.out).mono ?_); rintro e w8 ⟨rfl, hb⟩; have HB8 := Lib.hid (HB7.out.trans (hb.mono HB7.out.size)); clear hb))
              go_ret
              exact ⟨by simp, HB8.out⟩
      · have HOW := Lib.hid (fun W => Of_bad (B (whole u)) hsw hW (by omega) W)
        have hne : (s2.e != 0) = true := by rw [h14]; rfl
        clear hW hall
        go_enter Try.func4, Try.ntmps4
        go_wp2_with (first
          | (go_at_call 10; (with_reducible refine (c0.out _).mono ?_); rintro e w1 ⟨rfl, hb⟩; have HB1 := Lib.hid hb; clear hb)
          | (go_at_call 11; (with_reducible refine (c1.out _).mono ?_); rintro e w2 ⟨rfl, hb⟩; have HB2 := Lib.hid (HB1.out.trans (hb.mono HB1.out.size)); clear hb))
        go_loopg [7] (u.length + 1) (fun gk v7 wr => ∃ i : Int, v7 = .int .i64 i ∧ 0 ≤ i ∧ i ≤ (u.length : Int) ∧ (u.length : Int) < gk + i ∧ Hid (Below w.heap.size w wr))
        case atStart => exact ⟨0, rfl, by omega, by omega, by omega, HB2⟩
        case round =>
          obtain ⟨i, rfl, hi0, hi, hgk, HBR⟩ := hrel
          by_cases hlt : i < (u.length : Int)
          · have hd1 : decide (i < (u.length : Int)) = true := decide_eq_true (by omega)
            have hbt := bt_at (B u) i (by rw [hsu]; omega)
            have hcv := HALL.out i hi0 hlt
            generalize bt (B u) i = c at hbt hcv
            have e1 : decide (c = 94) = false := decide_eq_false hcv.1
            have e2 : decide (c = 36) = false := decide_eq_false hcv.2
            have e3 : (c == 94) = false := beq_eq_false_iff_ne.2 hcv.1
            have e4 : (c == 36) = false := beq_eq_false_iff_ne.2 hcv.2
            go_wp2
            go_roundg (gk - 1)
            case measure => omega
            case rel => exact ⟨i + 1, by (simp <;> (unfold wrap64; omega)), by omega, by omega, by omega, HBR⟩
          · obtain rfl : i = (u.length : Int) := by omega
            have hd1 : decide ((u.length : Int) < (u.length : Int)) = false := by simp
            go_wp2_with (first
              | (go_at_call 12; (with_reducible refine (HOU.out _).mono ?_); rintro e w3 ⟨gu, rfl, hp, hb⟩; have HB3 := Lib.hid (HBR.out.trans (hb.mono HBR.out.size)); clear hp hb)
              | (go_at_call 12; (try rw [hjoin]); (with_reducible refine (HOW.out _).mono ?_); rintro e w4 ⟨rfl, hb⟩; have HB4 := Lib.hid (HB3.out.trans (hb.mono HB3.out.size)); clear hb)
              | (go_at_call 14; refine (HAW.out _).mono ?_; rintro e w7 ⟨rfl, hb⟩; have HB7 := Lib.hid (HB4.out.trans (hb.mono HB4.out.size)); clear hb))
            go_ret
            exact ⟨by simp, HB7.out⟩
    · have HOU := Lib.hid (fun W => Of_bad (B u) (by rw [hsu]; omega) hR he W)
      have hne : (s'.e != 0) = true := by simpa using he
      clear hR hall
      go_enter Try.func4, Try.ntmps4
      go_wp2_with (first
        | (go_at_call 10; (with_reducible refine (c0.out _).mono ?_); rintro e w1 ⟨rfl, hb⟩; have HB1 := Lib.hid hb; clear hb)
        | (go_at_call 11; (with_reducible refine (c1.out _).mono ?_); rintro e w2 ⟨rfl, hb⟩; have HB2 := Lib.hid (HB1.out.trans (hb.mono HB1.out.size)); clear hb))
      go_loopg [7] (u.length + 1) (fun gk v7 wr => ∃ i : Int, v7 = .int .i64 i ∧ 0 ≤ i ∧ i ≤ (u.length : Int) ∧ (u.length : Int) < gk + i ∧ Hid (Below w.heap.size w wr))
      case atStart => exact ⟨0, rfl, by omega, by omega, by omega, HB2⟩
      case round =>
        obtain ⟨i, rfl, hi0, hi, hgk, HBR⟩ := hrel
        by_cases hlt : i < (u.length : Int)
        · have hd1 : decide (i < (u.length : Int)) = true := decide_eq_true (by omega)
          have hbt := bt_at (B u) i (by rw [hsu]; omega)
          have hcv := HALL.out i hi0 hlt
          generalize bt (B u) i = c at hbt hcv
          have e1 : decide (c = 94) = false := decide_eq_false hcv.1
          have e2 : decide (c = 36) = false := decide_eq_false hcv.2
          have e3 : (c == 94) = false := beq_eq_false_iff_ne.2 hcv.1
          have e4 : (c == 36) = false := beq_eq_false_iff_ne.2 hcv.2
          go_wp2
          go_roundg (gk - 1)
          case measure => omega
          case rel => exact ⟨i + 1, by (simp <;> (unfold wrap64; omega)), by omega, by omega, by omega, HBR⟩
        · obtain rfl : i = (u.length : Int) := by omega
          have hd1 : decide ((u.length : Int) < (u.length : Int)) = false := by simp
          go_wp2_with (first
            | (go_at_call 12; (with_reducible refine (HOU.out _).mono ?_); rintro e w3 ⟨rfl, hb⟩; have HB3 := Lib.hid (HBR.out.trans (hb.mono HBR.out.size)); clear hb)
            | (go_at_call 14; refine (HAW.out _).mono ?_; rintro e w7 ⟨rfl, hb⟩; have HB7 := Lib.hid (HB3.out.trans (hb.mono HB3.out.size)); clear hb))
          go_ret
          exact ⟨rfl, HB7.out⟩
  · have HALL := Lib.hid hgood
    clear hgood
    go_enter Try.func4, Try.ntmps4
    go_wp2_with (first
      | (go_at_call 10; (with_reducible refine (c0.out _).mono ?_); rintro e w1 ⟨rfl, hb⟩; have HB1 := Lib.hid hb; clear hb)
      | (go_at_call 11; (with_reducible refine (c1.out _).mono ?_); rintro e w2 ⟨rfl, hb⟩; have HB2 := Lib.hid (HB1.out.trans (hb.mono HB1.out.size)); clear hb))
    go_loopg [7] (u.length + 1) (fun gk v7 wr => ∃ i : Int, v7 = .int .i64 i ∧ 0 ≤ i ∧ i ≤ kk ∧ (u.length : Int) < gk + i ∧ Hid (Below w.heap.size w wr))
    case atStart => exact ⟨0, rfl, by omega, by omega, by omega, HB2⟩
    case round =>
      obtain ⟨i, rfl, hi0, hi, hgk, HBR⟩ := hrel
      by_cases hlt : i < kk
      · have hd1 : decide (i < (u.length : Int)) = true := decide_eq_true (by omega)
        have hbt := bt_at (B u) i (by rw [hsu]; omega)
        have hcv := HALL.out i hi0 hlt
        generalize bt (B u) i = c at hbt hcv
        have e1 : decide (c = 94) = false := decide_eq_false hcv.1
        have e2 : decide (c = 36) = false := decide_eq_false hcv.2
        have e3 : (c == 94) = false := beq_eq_false_iff_ne.2 hcv.1
        have e4 : (c == 36) = false := beq_eq_false_iff_ne.2 hcv.2
        go_wp2
        go_roundg (gk - 1)
        case measure => omega
        case rel => exact ⟨i + 1, by (simp <;> (unfold wrap64; omega)), by omega, by omega, by omega, HBR⟩
      · obtain rfl : i = kk := by omega
        have hd1 : decide (i < (u.length : Int)) = true := decide_eq_true (by omega)
        have hbt := bt_at (B u) i (by rw [hsu]; omega)
        generalize bt (B u) i = c at hbt hcb
        by_cases h94 : c = 94
        · subst h94
          go_wp2_with (go_at_call 14; refine (HAW.out _).mono ?_; rintro e w7 ⟨rfl, hb⟩; have HB7 := Lib.hid (HBR.out.trans (hb.mono HBR.out.size)); clear hb)
          go_ret
          exact ⟨rfl, HB7.out⟩
        · obtain rfl : c = 36 := by omega
          go_wp2_with (go_at_call 14; refine (HAW.out _).mono ?_; rintro e w7 ⟨rfl, hb⟩; have HB7 := Lib.hid (HBR.out.trans (hb.mono HBR.out.size)); clear hb)
          go_ret
          exact ⟨rfl, HB7.out⟩
end Go.Proofs.Ythlffghlkggimaa.Pr
