/- What is found is as long as may be, and nothing begins ahead of it: the law, walked by hand (written by tools/mklongest.py). -/
import Derived.Test.YthlffghlkggimaaPuMtW
import Derived.Deep.LoopGhost
import Derived.Test.YthlffghlkggimaaPr10
set_option linter.unusedVariables false
set_option linter.unusedSimpArgs false
namespace Go.Proofs.Ythlffghlkggimaa.Pr
open Go Go.RowKit Go.Proofs.YthlffghlkggimaaW.PrintWords Go.Proofs.YthlffghlkggimaaW.PrintLast Go.Proofs.YthlffghlkggimaaW.PrintMore

abbrev cutL (a : ByteArray) (n : Nat) : List UInt8 := a.data.toList.take n
theorem cut_calls (a : ByteArray) (n : Nat) (w : World) : Calls Try.prog 11 #[.string a, .int .i64 (n : Int)] w fun e w' => e = .returned (.string (B (cutL a n))) ∧ Below w.heap.size w w' :=
  (scribelaw01_Cut.calls a n _ w ⟨rfl⟩ (cut_B a n)).mono fun e w' ⟨h, hd⟩ => ⟨h, hd.below⟩
theorem ext_B (t : List UInt8) (a b : Nat) : (B t).extract a b = B ((t.drop a).take (b - a)) := by
  apply B_ext
  rw [Lib.extract_data]
  rfl
theorem Of_any (s : ByteArray) (hs : (s.size : Int) ≤ 300) (w : World) : Calls Try.prog 12 #[.string s] w fun e w' => ∃ pv bb ee, e = .returned (.tuple #[pv, .int .i64 bb, .int .i64 ee]) ∧ Below w.heap.size w w' := by
  obtain ⟨n, s', hR, _⟩ := alt_total s (by omega)
  by_cases he : s'.e = 0
  · refine (Of_ok s hs hR he w).mono ?_
    rintro e w' ⟨g, rfl, _, hb⟩
    exact ⟨_, _, _, rfl, hb⟩
  · refine (Of_bad s hs hR he w).mono ?_
    rintro e w' ⟨rfl, hb⟩
    exact ⟨_, _, _, rfl, hb⟩
theorem sign_or (u : List UInt8) : (∀ i : Int, 0 ≤ i → i < (u.length : Int) → bt (B u) i ≠ 94 ∧ bt (B u) i ≠ 36) ∨ ∃ k : Int, 0 ≤ k ∧ k < (u.length : Int) ∧ (∀ i : Int, 0 ≤ i → i < k → bt (B u) i ≠ 94 ∧ bt (B u) i ≠ 36) ∧ (bt (B u) k = 94 ∨ bt (B u) k = 36) := by
  have key : ∀ m : Nat, m ≤ u.length → (∀ i : Int, 0 ≤ i → i < (m : Int) → bt (B u) i ≠ 94 ∧ bt (B u) i ≠ 36) ∨ ∃ k : Int, 0 ≤ k ∧ k < (m : Int) ∧ (∀ i : Int, 0 ≤ i → i < k → bt (B u) i ≠ 94 ∧ bt (B u) i ≠ 36) ∧ (bt (B u) k = 94 ∨ bt (B u) k = 36) := by
    intro m
    induction m with
    | zero => intro _; exact .inl (fun i h0 h1 => by omega)
    | succ m ih =>
      intro hm
      rcases ih (by omega) with h | ⟨k, h0, h1, h2, h3⟩
      · by_cases hb : bt (B u) (m : Int) = 94 ∨ bt (B u) (m : Int) = 36
        · exact .inr ⟨m, by omega, by omega, h, hb⟩
        · refine .inl (fun i h0 h1 => ?_)
          by_cases e : i = (m : Int)
          · subst e; omega
          · exact h i h0 (by omega)
      · exact .inr ⟨k, h0, by omega, h2, h3⟩
  exact key _ (Nat.le_refl _)
/-- a part of the text that is met whole: what is found stands no later, and is no shorter there -/
theorem long_ok {n : RNode} {t : List UInt8} {a b : Int} {ok met : Bool} (h : MetS n (B t) 0 a b ok) (hna : NoA n) {i j : Int} (h0 : 0 ≤ i) (hij : i ≤ j) (hj : j ≤ (t.length : Int))
    (hm : InS (wholeN n) ((B t).extract i.toNat j.toNat) met) : met = false ∨ met = true ∧ ok = true ∧ a ≤ i ∧ (i = a → j ≤ b) := by
  cases met with
  | false => exact .inl rfl
  | true =>
    right
    obtain ⟨x, y, hx, hm2⟩ := hm.1 rfl
    rw [whole_met] at hm2
    obtain ⟨rfl, rfl, hm3⟩ := hm2
    obtain ⟨p, rfl⟩ := Int.eq_ofNat_of_zero_le h0
    obtain ⟨q, rfl⟩ := Int.eq_ofNat_of_zero_le (show 0 ≤ j by omega)
    simp only [Int.toNat_natCast] at hm3 hx
    rw [ext_B] at hm3 hx
    have hsz : (B ((t.drop p).take (q - p))).size = q - p := by rw [B_size]; simp; omega
    rw [hsz] at hm3
    have hch : ∀ k, k < q - p → chB (B t) (p + k) = chB (B ((t.drop p).take (q - p))) k := fun k hk => by
      unfold chB
      rw [bt_B t (p + k) (by omega), bt_B _ k (by simp; omega)]
      simp
    have hs := (mt_shift (ch := chB (B t)) (ch' := chB (B ((t.drop p).take (q - p)))) (N := t.length) (M := q - p) (a := p) (by omega) hch n hna 0 (q - p) (Nat.le_refl _)).2 hm3
    rw [Nat.add_zero, show p + (q - p) = q by omega] at hs
    rcases h with ⟨rfl, _, _, h⟩ | ⟨rfl, s, e, rfl, rfl, _, _, h4, h5, h6, h7⟩
    · rw [B_size] at h
      exact absurd hs (h p q (by omega) (by omega) (Int.le_refl _))
    · rw [B_size] at h7
      have := h7 p q (by omega) (by omega) hs
      refine ⟨rfl, rfl, ?_, fun e1 => ?_⟩
      · rcases this with h | ⟨h, _⟩ <;> omega
      · rcases this with h | ⟨h, h8⟩ <;> omega
def scribelaw10_MatchLongest.f (k : Nat) (a0 a1 : ByteArray) : Option Bool := some true
theorem MatchLongest_ev (a0 a1 : ByteArray) (_h0 : a0.size ≤ 140737488351232) (_h1 : a1.size ≤ 140737488351232) : Ev (fun k => scribelaw10_MatchLongest.f k a0 a1) true := ⟨0, fun _ _ => rfl⟩
set_option maxHeartbeats 8000000 in
set_option maxRecDepth 100000 in
theorem scribelaw10_MatchLongest.calls (k : Nat) (a0 a1 : ByteArray) (r : Bool) (w : World) (hT : TB w) (h : scribelaw10_MatchLongest.f k a0 a1 = some r) :
    Calls Try.prog 7 #[.string a0, .string a1] w fun e w' => e = .returned (.bool r) ∧ Below w.heap.size w w' := by
  obtain rfl : true = r := Option.some.inj h
  clear h hT
  have HAW := Lib.hid awake10_calls
  have HCUT := Lib.hid cut_calls
  generalize hu : cutL a0 30 = u
  generalize ht : cutL a1 20 = t
  have HU := Lib.hid hu
  have HT := Lib.hid ht
  have hul : u.length ≤ 30 := by rw [← hu]; exact List.length_take_le _ _
  have htl : t.length ≤ 20 := by rw [← ht]; exact List.length_take_le _ _
  clear hu ht
  have c0 := Lib.hid (fun W => by have h := HCUT.out a0 30 W; rw [HU.out] at h; exact h : ∀ W, Calls Try.prog 11 #[.string a0, .int .i64 30] W fun e w' => e = .returned (.string (B u)) ∧ Below W.heap.size W w')
  have c1 := Lib.hid (fun W => by have h := HCUT.out a1 20 W; rw [HT.out] at h; exact h : ∀ W, Calls Try.prog 11 #[.string a1, .int .i64 20] W fun e w' => e = .returned (.string (B t)) ∧ Below W.heap.size W w')
  have hsu : (B u).size = u.length := B_size u
  have hst : (B t).size = t.length := B_size t
  have hsw : ((B (whole u)).size : Int) ≤ 300 := by rw [B_size, whole_len]; omega
  have hjoin : (⟨#[94, 40]⟩ : ByteArray) ++ B u ++ (⟨#[41, 36]⟩ : ByteArray) = B (whole u) := by
    rw [B_lit [94, 40], B_lit [41, 36], B_append, B_append]
    simp
  rcases sign_or u with hall | ⟨kk, hk0, hk1, hgood, hcb⟩
  · obtain ⟨n, s', hR, _⟩ := alt_total (B u) (by rw [hsu]; omega)
    have HALL := Lib.hid hall
    by_cases he : s'.e = 0
    · have HOU := Lib.hid (fun W => Of_ok (B u) (by rw [hsu]; omega) hR he W)
      have hna : NoA n := noA_R (fun p h0 h1 => hall p h0 (by rw [hsu] at h1; exact h1)) hR trivial
      have hcn := cnt_of (by rw [hsu]; omega) hR he
      have HFI := Lib.hid (fun W g (hI : IsP W g n) => Find_calls hI (wf_R hR trivial) (okT_R hR trivial) (by rw [hsu] at hcn; omega) (t := B t) (by rw [hst]; omega) 0)
      have HNA := Lib.hid hna
      have hwp := whole_parse u hR he (by omega)
      clear hR hcn hna
      rcases hwp with ⟨s2, hW, he2⟩ | ⟨q, s2, hW, h14⟩
      · have HOW := Lib.hid (fun W => Of_ok (B (whole u)) hsw hW he2 W)
        have hcw := cnt_of (by omega) hW he2
        have HIN := Lib.hid (fun W g (hI : IsP W g (wholeN n)) (S : ByteArray) (hS : S.size < 1000000) => In_calls hI (wf_R hW trivial) (okT_R hW trivial) (by omega) (t := S) hS)
        clear hW hcw hall
        go_enter Try.func7, Try.ntmps7
        go_wp2_with (first
          | (go_at_call 11; (with_reducible refine (c0.out _).mono ?_); rintro e w1 ⟨rfl, hb⟩; have HB1 := Lib.hid hb; clear hb)
          | (go_at_call 11; (with_reducible refine (c1.out _).mono ?_); rintro e w2 ⟨rfl, hb⟩; have HB2 := Lib.hid (HB1.out.trans (hb.mono HB1.out.size)); clear hb))
        go_loopg [5] (u.length + 1) (fun gk v5 wr => ∃ i : Int, v5 = .int .i64 i ∧ 0 ≤ i ∧ i ≤ (u.length : Int) ∧ (u.length : Int) < gk + i ∧ Hid (Below w.heap.size w wr))
        case atStart => exact ⟨0, rfl, by omega, by omega, by omega, HB2⟩
        case round =>
          obtain ⟨i, rfl, hi0, hi, hgk, HBR⟩ := hrel
          by_cases hlt : i < (u.length : Int)
          · have hd1 : decide (i < (u.length : Int)) = true := decide_eq_true (by omega)
            have hbt := bt_at (B u) i (by rw [hsu]; omega)
            have hcv := HALL.out i hi0 hlt
            generalize bt (B u) i = c at hbt hcv
            have e1 : decide (c = 94) = false := decide_eq_false hcv.1
            have e2 : decide (c = 36) = false := decide_eq_false hcv.2
            have e3 : (c == 94) = false := beq_eq_false_iff_ne.2 hcv.1
            have e4 : (c == 36) = false := beq_eq_false_iff_ne.2 hcv.2
            go_wp2
            go_roundg (gk - 1)
            case measure => omega
            case rel => exact ⟨i + 1, by (simp <;> (unfold wrap64; omega)), by omega, by omega, by omega, HBR⟩
          · obtain rfl : i = (u.length : Int) := by omega
            have hd1 : decide ((u.length : Int) < (u.length : Int)) = false := by simp
            go_wp2_with (first
              | (go_at_call 12; (with_reducible refine (HOU.out _).mono ?_); rintro e w3 ⟨gu, rfl, hp, hb⟩; have HPU := Lib.hid hp; have HB3 := Lib.hid (HBR.out.trans (hb.mono HBR.out.size)); clear hp hb)
              | (go_at_call 12; (try rw [hjoin]); (with_reducible refine (HOW.out _).mono ?_); rintro e w4 ⟨gq, rfl, hp, hb⟩; have HPU4 := Lib.hid (HPU.out.below hb); have HPQ := Lib.hid hp; have HB4 := Lib.hid (HB3.out.trans (hb.mono HB3.out.size)); clear hp hb)
              | (go_at_call 15; obtain ⟨a, b, ok, hm, hf⟩ := HFI.out _ _ HPU4.out; have HM := Lib.hid hm; (with_reducible refine hf.mono ?_); clear hm hf; rintro e w5 ⟨rfl, hb⟩; have HPQ5 := Lib.hid (HPQ.out.below hb); have HB5 := Lib.hid (HB4.out.trans (hb.mono HB4.out.size)); clear hb))
            go_loopg [15] (t.length + 3) (fun gk v15 wr => ∃ i : Int, v15 = .int .i64 i ∧ 0 ≤ i ∧ i ≤ (t.length : Int) + 1 ∧ (t.length : Int) + 1 < gk + i ∧ Hid (Below w.heap.size w wr) ∧ Hid (IsP wr gq (wholeN n)))
            case atStart => exact ⟨0, rfl, by omega, by omega, by omega, HB5, HPQ5⟩
            case round =>
              obtain ⟨i, rfl, hi0, hi, hgk, HBI, HPI⟩ := hrel
              by_cases hlt : i ≤ (t.length : Int)
              · have hd1 : decide (i ≤ (t.length : Int)) = true := decide_eq_true hlt
                obtain ⟨gz, hgz⟩ : ∃ x : Nat, x = gk := ⟨_, rfl⟩
                have HGZ := Lib.hid (show gz = gk ∧ (t.length : Int) + 1 < gk + i from ⟨hgz, hgk⟩)
                clear hgz
                go_wp2
                go_loopg [16] (t.length + 3) (fun gj v16 wr => ∃ j : Int, v16 = .int .i64 j ∧ i ≤ j ∧ j ≤ (t.length : Int) + 1 ∧ (t.length : Int) + 1 < gj + j ∧ Hid (Below w.heap.size w wr) ∧ Hid (IsP wr gq (wholeN n)))
                case atStart => exact ⟨i, rfl, by omega, by omega, by omega, HBI, HPI⟩
                case round =>
                  obtain ⟨j, rfl, hj0, hj, hgj, HBJ, HPJ⟩ := hrel
                  by_cases hjt : j ≤ (t.length : Int)
                  · have hd2 : decide (j ≤ (t.length : Int)) = true := decide_eq_true hjt
                    obtain ⟨met, hmet, hin⟩ := HIN.out wr gq HPJ.out ((B t).extract i.toNat j.toNat) (by rw [ext_B, B_size]; simp; omega)
                    have HI := Lib.hid hin
                    have hlo := long_ok HM.out HNA.out hi0 hj0 hjt hmet
                    clear hin hmet
                    rcases hlo with rfl | ⟨rfl, rfl, hai, hjb⟩
                    · go_wp2_with (go_at_call 17; (with_reducible refine HI.out.mono ?_); rintro e w6 ⟨rfl, hb⟩; have HPJ6 := Lib.hid (HPJ.out.below hb); have HB6 := Lib.hid (HBJ.out.trans (hb.mono HBJ.out.size)); clear hb)
                      go_roundg (gk - 1)
                      case measure => omega
                      case rel => exact ⟨j + 1, by (simp <;> (unfold wrap64; omega)), by omega, by omega, by omega, HB6, HPJ6⟩
                    · have e1 : decide (i < a) = false := decide_eq_false (by omega)
                      by_cases hia : i = a
                      · have e2 : decide (i = a) = true := decide_eq_true hia
                        have e4 : decide (j > b) = false := decide_eq_false (by have := hjb hia; omega)
                        have e5 : (i == a) = true := by rw [hia]; exact beq_self_eq_true a
                        clear hia hjb
                        go_wp2_with (go_at_call 17; (with_reducible refine HI.out.mono ?_); rintro e w6 ⟨rfl, hb⟩; have HPJ6 := Lib.hid (HPJ.out.below hb); have HB6 := Lib.hid (HBJ.out.trans (hb.mono HBJ.out.size)); clear hb)
                        go_roundg (gk - 1)
                        case measure => omega
                        case rel => exact ⟨j + 1, by (simp <;> (unfold wrap64; omega)), by omega, by omega, by omega, HB6, HPJ6⟩
                      · have e2 : decide (i = a) = false := decide_eq_false hia
                        have e5 : (i == a) = false := beq_eq_false_iff_ne.2 hia
                        go_wp2_with (go_at_call 17; (with_reducible refine HI.out.mono ?_); rintro e w6 ⟨rfl, hb⟩; have HPJ6 := Lib.hid (HPJ.out.below hb); have HB6 := Lib.hid (HBJ.out.trans (hb.mono HBJ.out.size)); clear hb)
                        go_roundg (gk - 1)
                        case measure => omega
                        case rel => exact ⟨j + 1, by (simp <;> (unfold wrap64; omega)), by omega, by omega, by omega, HB6, HPJ6⟩
                  · have hd2 : decide (j ≤ (t.length : Int)) = false := decide_eq_false hjt
                    go_wp2
                    have hgz := HGZ.out
                    go_roundg (gz - 1)
                    case measure => omega
                    case rel => exact ⟨i + 1, by (simp <;> (unfold wrap64; omega)), by omega, by omega, by omega, HBJ, HPJ⟩
              · have hd1 : decide (i ≤ (t.length : Int)) = false := decide_eq_false hlt
                go_wp2_with (go_at_call 14; refine (HAW.out _).mono ?_; rintro e w7 ⟨rfl, hb⟩; have HB7 := Lib.hid (HBI.out.trans (hb.mono HBI.out.size)); clear hb)
                go_ret
                exact ⟨rfl, HB7.out⟩
      · have HOW := Lib.hid (fun W => Of_bad (B (whole u)) hsw hW (by omega) W)
        have hne : (s2.e != 0) = true := by rw [h14]; rfl
        clear hW hall
        go_enter Try.func7, Try.ntmps7
        go_wp2_with (first
          | (go_at_call 11; (with_reducible refine (c0.out _).mono ?_); rintro e w1 ⟨rfl, hb⟩; have HB1 := Lib.hid hb; clear hb)
          | (go_at_call 11; (with_reducible refine (c1.out _).mono ?_); rintro e w2 ⟨rfl, hb⟩; have HB2 := Lib.hid (HB1.out.trans (hb.mono HB1.out.size)); clear hb))
        go_loopg [5] (u.length + 1) (fun gk v5 wr => ∃ i : Int, v5 = .int .i64 i ∧ 0 ≤ i ∧ i ≤ (u.length : Int) ∧ (u.length : Int) < gk + i ∧ Hid (Below w.heap.size w wr))
        case atStart => exact ⟨0, rfl, by omega, by omega, by omega, HB2⟩
        case round =>
          obtain ⟨i, rfl, hi0, hi, hgk, HBR⟩ := hrel
          by_cases hlt : i < (u.length : Int)
          · have hd1 : decide (i < (u.length : Int)) = true := decide_eq_true (by omega)
            have hbt := bt_at (B u) i (by rw [hsu]; omega)
            have hcv := HALL.out i hi0 hlt
            generalize bt (B u) i = c at hbt hcv
            have e1 : decide (c = 94) = false := decide_eq_false hcv.1
            have e2 : decide (c = 36) = false := decide_eq_false hcv.2
            have e3 : (c == 94) = false := beq_eq_false_iff_ne.2 hcv.1
            have e4 : (c == 36) = false := beq_eq_false_iff_ne.2 hcv.2
            go_wp2
            go_roundg (gk - 1)
            case measure => omega
            case rel => exact ⟨i + 1, by (simp <;> (unfold wrap64; omega)), by omega, by omega, by omega, HBR⟩
          · obtain rfl : i = (u.length : Int) := by omega
            have hd1 : decide ((u.length : Int) < (u.length : Int)) = false := by simp
            go_wp2_with (first
              | (go_at_call 12; (with_reducible refine (HOU.out _).mono ?_); rintro e w3 ⟨gu, rfl, hp, hb⟩; have HB3 := Lib.hid (HBR.out.trans (hb.mono HBR.out.size)); clear hp hb)
              | (go_at_call 12; (try rw [hjoin]); (with_reducible refine (HOW.out _).mono ?_); rintro e w4 ⟨rfl, hb⟩; have HB4 := Lib.hid (HB3.out.trans (hb.mono HB3.out.size)); clear hb)
              | (go_at_call 14; refine (HAW.out _).mono ?_; rintro e w7 ⟨rfl, hb⟩; have HB7 := Lib.hid (HB4.out.trans (hb.mono HB4.out.size)); clear hb))
            go_ret
            exact ⟨rfl, HB7.out⟩
    · have HOU := Lib.hid (fun W => Of_bad (B u) (by rw [hsu]; omega) hR he W)
      have HOW := Lib.hid (fun W => Of_any (B (whole u)) hsw W)
      have hne : (s'.e != 0) = true := by simpa using he
      clear hR hall
      go_enter Try.func7, Try.ntmps7
      go_wp2_with (first
        | (go_at_call 11; (with_reducible refine (c0.out _).mono ?_); rintro e w1 ⟨rfl, hb⟩; have HB1 := Lib.hid hb; clear hb)
        | (go_at_call 11; (with_reducible refine (c1.out _).mono ?_); rintro e w2 ⟨rfl, hb⟩; have HB2 := Lib.hid (HB1.out.trans (hb.mono HB1.out.size)); clear hb))
      go_loopg [5] (u.length + 1) (fun gk v5 wr => ∃ i : Int, v5 = .int .i64 i ∧ 0 ≤ i ∧ i ≤ (u.length : Int) ∧ (u.length : Int) < gk + i ∧ Hid (Below w.heap.size w wr))
      case atStart => exact ⟨0, rfl, by omega, by omega, by omega, HB2⟩
      case round =>
        obtain ⟨i, rfl, hi0, hi, hgk, HBR⟩ := hrel
        by_cases hlt : i < (u.length : Int)
        · have hd1 : decide (i < (u.length : Int)) = true := decide_eq_true (by omega)
          have hbt := bt_at (B u) i (by rw [hsu]; omega)
          have hcv := HALL.out i hi0 hlt
          generalize bt (B u) i = c at hbt hcv
          have e1 : decide (c = 94) = false := decide_eq_false hcv.1
          have e2 : decide (c = 36) = false := decide_eq_false hcv.2
          have e3 : (c == 94) = false := beq_eq_false_iff_ne.2 hcv.1
          have e4 : (c == 36) = false := beq_eq_false_iff_ne.2 hcv.2
          go_wp2
          go_roundg (gk - 1)
          case measure => omega
          case rel => exact ⟨i + 1, by (simp <;> (unfold wrap64; omega)), by omega, by omega, by omega, HBR⟩
        · obtain rfl : i = (u.length : Int) := by omega
          have hd1 : decide ((u.length : Int) < (u.length : Int)) = false := by simp
          go_wp2_with (first
            | (go_at_call 12; (with_reducible refine (HOU.out _).mono ?_); rintro e w3 ⟨rfl, hb⟩; have HB3 := Lib.hid (HBR.out.trans (hb.mono HBR.out.size)); clear hb)
            | (go_at_call 12; (try rw [hjoin]); (with_reducible refine (HOW.out _).mono ?_); rintro e w4 ⟨pv, pb, pe, rfl, hb⟩; have HB4 := Lib.hid (HB3.out.trans (hb.mono HB3.out.size)); clear hb)
            | (go_at_call 14; refine (HAW.out _).mono ?_; rintro e w7 ⟨rfl, hb⟩; have HB7 := Lib.hid (HB4.out.trans (hb.mono HB4.out.size)); clear hb))
          go_ret
          exact ⟨rfl, HB7.out⟩
  · have HALL := Lib.hid hgood
    clear hgood
    go_enter Try.func7, Try.ntmps7
    go_wp2_with (first
      | (go_at_call 11; (with_reducible refine (c0.out _).mono ?_); rintro e w1 ⟨rfl, hb⟩; have HB1 := Lib.hid hb; clear hb)
      | (go_at_call 11; (with_reducible refine (c1.out _).mono ?_); rintro e w2 ⟨rfl, hb⟩; have HB2 := Lib.hid (HB1.out.trans (hb.mono HB1.out.size)); clear hb))
    go_loopg [5] (u.length + 1) (fun gk v5 wr => ∃ i : Int, v5 = .int .i64 i ∧ 0 ≤ i ∧ i ≤ kk ∧ (u.length : Int) < gk + i ∧ Hid (Below w.heap.size w wr))
    case atStart => exact ⟨0, rfl, by omega, by omega, by omega, HB2⟩
    case round =>
      obtain ⟨i, rfl, hi0, hi, hgk, HBR⟩ := hrel
      by_cases hlt : i < kk
      · have hd1 : decide (i < (u.length : Int)) = true := decide_eq_true (by omega)
        have hbt := bt_at (B u) i (by rw [hsu]; omega)
        have hcv := HALL.out i hi0 hlt
        generalize bt (B u) i = c at hbt hcv
        have e1 : decide (c = 94) = false := decide_eq_false hcv.1
        have e2 : decide (c = 36) = false := decide_eq_false hcv.2
        have e3 : (c == 94) = false := beq_eq_false_iff_ne.2 hcv.1
        have e4 : (c == 36) = false := beq_eq_false_iff_ne.2 hcv.2
        go_wp2
        go_roundg (gk - 1)
        case measure => omega
        case rel => exact ⟨i + 1, by (simp <;> (unfold wrap64; omega)), by omega, by omega, by omega, HBR⟩
      · obtain rfl : i = kk := by omega
        have hd1 : decide (i < (u.length : Int)) = true := decide_eq_true (by omega)
        have hbt := bt_at (B u) i (by rw [hsu]; omega)
        generalize bt (B u) i = c at hbt hcb
        by_cases h94 : c = 94
        · subst h94
          go_wp2_with (go_at_call 14; refine (HAW.out _).mono ?_; rintro e w7 ⟨rfl, hb⟩; have HB7 := Lib.hid (HBR.out.trans (hb.mono HBR.out.size)); clear hb)
          go_ret
          exact ⟨rfl, HB7.out⟩
        · obtain rfl : c = 36 := by omega
          go_wp2_with (go_at_call 14; refine (HAW.out _).mono ?_; rintro e w7 ⟨rfl, hb⟩; have HB7 := Lib.hid (HBR.out.trans (hb.mono HBR.out.size)); clear hb)
          go_ret
          exact ⟨rfl, HB7.out⟩
end Go.Proofs.Ythlffghlkggimaa.Pr
