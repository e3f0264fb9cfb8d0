/- Letters are met where the text has them: the law, walked by hand. -/
import Derived.Test.YthlffghlkggimaaPuMtA
import Derived.Deep.LoopGhost
import Derived.Test.YthlffghlkggimaaPr10
set_option linter.unusedVariables false
set_option linter.unusedSimpArgs false
namespace Go.Proofs.Ythlffghlkggimaa.Pr
open Go Go.RowKit Go.Proofs.YthlffghlkggimaaW.PrintWords Go.Proofs.YthlffghlkggimaaW.PrintLast Go.Proofs.YthlffghlkggimaaW.PrintMore

abbrev cutL (a : ByteArray) (n : Nat) : List UInt8 := a.data.toList.take n
theorem cut_calls (a : ByteArray) (n : Nat) (w : World) : Calls Try.prog 11 #[.string a, .int .i64 (n : Int)] w fun e w' => e = .returned (.string (B (cutL a n))) ∧ Below w.heap.size w w' :=
  (scribelaw01_Cut.calls a n _ w ⟨rfl⟩ (cut_B a n)).mono fun e w' ⟨h, hd⟩ => ⟨h, hd.below⟩
theorem B_list (l : List UInt8) : (B l).toList = l := by rw [ByteArray.toList_eq]; simp [B]
theorem ext_B (t : List UInt8) (a b : Nat) : (B t).extract a b = B ((t.drop a).take (b - a)) := by
  apply B_ext
  rw [Lib.extract_data]
  rfl
theorem mt_cat {ch : Nat → Nat} {N : Nat} (l : List RNode) (i j : Nat) : Mt ch N (catN l) i j ↔ MtC ch N l i j := match l with
  | [] => by
    simp only [catN, zN]
    rw [Mt_0 _ _ _ _ (by decide)]
    unfold MtC
    exact Iff.rfl
  | [n] => by
    simp only [catN]
    unfold MtC
    unfold MtC
    constructor
    · intro h; exact ⟨j, h, rfl⟩
    · rintro ⟨m, h, rfl⟩; exact h
  | a :: b :: r => by simp only [catN]; rw [Mt_2]
theorem mt_lits (t : List UInt8) (u : List UInt8) : ∀ i j, MtC (chB (B t)) (B t).size (u.map litN) i j ↔ j = i + u.length ∧ (t.drop i).take u.length = u := by
  induction u with
  | nil =>
    intro i j
    simp only [List.map_nil]
    unfold MtC
    simp
  | cons c r ih =>
    intro i j
    simp only [List.map_cons]
    unfold MtC
    constructor
    · rintro ⟨m, h1, h2⟩
      rw [mt_lit (chB_lt _)] at h1
      obtain ⟨h1, h3, rfl⟩ := h1
      rw [B_size] at h1
      rw [ih] at h2
      refine ⟨by simp; omega, ?_⟩
      rw [List.drop_eq_getElem_cons h1, List.length_cons, List.take_succ_cons, h2.2]
      have hb := bt_B t i h1
      have : chB (B t) i = t[i].toNat := by unfold chB; rw [hb]; rfl
      rw [this] at h3
      rw [UInt8.toNat_inj.1 h3]
    · rintro ⟨rfl, h⟩
      have hi : i < t.length := by
        by_cases hlt : i < t.length
        · exact hlt
        · rw [List.drop_eq_nil_of_le (by omega)] at h
          simp at h
      rw [List.drop_eq_getElem_cons hi, List.length_cons, List.take_succ_cons] at h
      injection h with h1 h2
      refine ⟨i + 1, (mt_lit (chB_lt _) c i (i + 1)).2 ⟨by rw [B_size]; exact hi, ?_, rfl⟩, (ih _ _).2 ⟨by simp; omega, h2⟩⟩
      have hb := bt_B t i hi
      unfold chB
      rw [hb, ← h1]
      rfl
/-- u stands in t at k -/
def Has (u t : List UInt8) (k : Nat) : Prop := (t.drop k).take u.length = u
theorem has_le {u t : List UInt8} {k : Nat} (h : Has u t k) (hu : u ≠ []) : k + u.length ≤ t.length := by
  have := congrArg List.length h
  have hp := List.length_pos_iff.2 hu
  rw [List.length_take, List.length_drop] at this
  omega
/-- the first place of u in t; -1: none -/
def AtS (u t : List UInt8) (v : Int) : Prop := (v = -1 ∧ ∀ k, k + u.length ≤ t.length → ¬ Has u t k) ∨ ∃ p : Nat, v = (p : Int) ∧ p + u.length ≤ t.length ∧ Has u t p ∧ ∀ k, k < p → ¬ Has u t k
def AtI (u t : List UInt8) (i : Int) (v : Int) : Prop := (v = -1 ∧ ∀ k : Nat, i < (k : Int) → k + u.length ≤ t.length → ¬ Has u t k) ∨ ∃ p : Nat, v = (p : Int) ∧ i < (p : Int) ∧ p + u.length ≤ t.length ∧ Has u t p ∧ ∀ k : Nat, i < (k : Int) → k < p → ¬ Has u t k
theorem at_end {u t : List UInt8} {i v : Int} (h : AtI u t i v) (hi : i < 0) : AtS u t v := by
  rcases h with ⟨h1, h2⟩ | ⟨p, h1, h2, h3, h4, h5⟩
  · exact .inl ⟨h1, fun k hk => h2 k (by omega) hk⟩
  · exact .inr ⟨p, h1, h3, h4, fun k hk => h5 k (by omega) hk⟩
theorem at_yes {u t : List UInt8} {i : Nat} {v : Int} (h : AtI u t i v) (hh : Has u t i) (hl : i + u.length ≤ t.length) : AtI u t ((i : Int) - 1) (i : Int) :=
  .inr ⟨i, rfl, by omega, hl, hh, fun k h1 h2 => by omega⟩
theorem at_no {u t : List UInt8} {i : Nat} {v : Int} (h : AtI u t i v) (hh : ¬ Has u t i) : AtI u t ((i : Int) - 1) v := by
  rcases h with ⟨h1, h2⟩ | ⟨p, h1, h2, h3, h4, h5⟩
  · refine .inl ⟨h1, fun k hk hl => ?_⟩
    by_cases e : k = i
    · subst e; exact hh
    · exact h2 k (by omega) hl
  · refine .inr ⟨p, h1, by omega, h3, h4, fun k hk hl => ?_⟩
    by_cases e : k = i
    · subst e; exact hh
    · exact h5 k (by omega) hl
/-- what Find answers -/
theorem plain_find {u t : List UInt8} {a b v : Int} {ok : Bool} (h : MetS (catN (u.map litN)) (B t) 0 a b ok) (hv : AtS u t v) : (ok = false ∧ v = -1) ∨ (ok = true ∧ a = v ∧ b = v + u.length ∧ 0 ≤ v) := by
  have hm : ∀ i j, Mt (chB (B t)) (B t).size (catN (u.map litN)) i j ↔ j = i + u.length ∧ Has u t i := fun i j => by rw [mt_cat, mt_lits]; rfl
  rcases h with ⟨rfl, _, _, h⟩ | ⟨rfl, s, e, rfl, rfl, _, _, h4, h5, h6, h7⟩
  · refine .inl ⟨rfl, ?_⟩
    rcases hv with ⟨h1, _⟩ | ⟨p, h1, h2, h3, _⟩
    · exact h1
    · exact absurd ((hm p _).2 ⟨rfl, h3⟩) (h p _ (by omega) (by rw [B_size]; omega) (Int.le_refl _))
  · rw [hm] at h6
    rw [B_size] at h5
    refine .inr ⟨rfl, ?_⟩
    rcases hv with ⟨_, h8⟩ | ⟨p, rfl, h8, h9, h10⟩
    · exact absurd h6.2 (h8 s (by omega))
    · have h11 := h7 p _ (by omega) (by rw [B_size]; omega) ((hm p _).2 ⟨rfl, h9⟩)
      have h12 : s = p := by
        by_cases hlt : s < p
        · exact absurd h6.2 (h10 s hlt)
        · rcases h11 with h | ⟨h, _⟩ <;> omega
      subst h12
      exact ⟨rfl, by omega, by omega⟩
theorem slice_has {u t : List UInt8} {i : Int} (h0 : 0 ≤ i) {b : Bool} (h : (((B t).extract i.toNat (i + (u.length : Int)).toNat).toList == (B u).toList) = b) : b = true ↔ Has u t i.toNat := by
  have e : (i + (u.length : Int)).toNat - i.toNat = u.length := by omega
  rw [ext_B, B_list, B_list, e] at h
  subst h
  unfold Has
  simp
def scribelaw10_MatchPlain.f (k : Nat) (a0 a1 : ByteArray) : Option Bool := some true
theorem MatchPlain_ev (a0 a1 : ByteArray) (_h0 : a0.size ≤ 140737488351232) (_h1 : a1.size ≤ 140737488351232) : Ev (fun k => scribelaw10_MatchPlain.f k a0 a1) true := ⟨0, fun _ _ => rfl⟩
theorem letters_or (u : List UInt8) : (∀ c ∈ u, 97 ≤ c.toNat ∧ c.toNat ≤ 122) ∨ ∃ k, ∃ h : k < u.length, (∀ q, (h : q < k) → 97 ≤ (u[q]'(by omega)).toNat ∧ (u[q]'(by omega)).toNat ≤ 122) ∧ ¬ (97 ≤ (u[k]).toNat ∧ (u[k]).toNat ≤ 122) := by
  induction u with
  | nil => exact .inl (fun c hc => by cases hc)
  | cons c r ih =>
    by_cases hc : 97 ≤ c.toNat ∧ c.toNat ≤ 122
    · rcases ih with h | ⟨k, hk, h1, h2⟩
      · exact .inl (fun x hx => by rcases List.mem_cons.1 hx with rfl | hx; · exact hc
                                   · exact h x hx)
      · refine .inr ⟨k + 1, by simp; omega, fun q hq => ?_, by simpa using h2⟩
        cases q with
        | zero => exact hc
        | succ q => simpa using h1 q (by omega)
    · exact .inr ⟨0, by simp, fun q hq => by omega, by simpa using hc⟩
theorem quL_letters (u : List UInt8) (h : ∀ c ∈ u, 97 ≤ c.toNat ∧ c.toNat ≤ 122) : quL u = u := by
  induction u with
  | nil => rfl
  | cons c r ih =>
    rw [quL, ih (fun x hx => h x (List.mem_cons_of_mem _ hx))]
    have := h c List.mem_cons_self
    unfold quB
    rw [if_pos (by unfold selfC; simp; omega)]
    rfl
theorem letters_parse (u : List UInt8) (hl : u.length ≤ 100) (h : ∀ c ∈ u, 97 ≤ c.toNat ∧ c.toNat ≤ 122) : R (B u) .alt s0 (catN (u.map litN)) ⟨(u.length : Nat), 0, 0, 0⟩ := by
  have hq := quL_letters u h
  have h1 := R_lits u [] [] (by rw [hq]; simp; omega) (by simp; omega)
  simp only [List.nil_append, List.length_nil, hq] at h1
  exact .alt h1 (.altEnd (o := none) (nx_end (Int.le_refl _)) (by simp))
set_option maxHeartbeats 8000000 in
set_option maxRecDepth 100000 in
theorem scribelaw10_MatchPlain.calls (k : Nat) (a0 a1 : ByteArray) (r : Bool) (w : World) (hT : TB w) (h : scribelaw10_MatchPlain.f k a0 a1 = some r) :
    Calls Try.prog 5 #[.string a0, .string a1] w fun e w' => e = .returned (.bool r) ∧ Below w.heap.size w w' := by
  obtain rfl : true = r := Option.some.inj h
  clear h hT
  have HAW := Lib.hid awake10_calls
  have HCUT := Lib.hid cut_calls
  generalize hu : cutL a0 20 = u
  generalize ht : cutL a1 60 = t
  have HU := Lib.hid hu
  have HT := Lib.hid ht
  have hul : u.length ≤ 20 := by rw [← hu]; exact List.length_take_le _ _
  have htl : t.length ≤ 60 := by rw [← ht]; exact List.length_take_le _ _
  clear hu ht
  have c0 := Lib.hid (fun W => by have h := HCUT.out a0 20 W; rw [HU.out] at h; exact h : ∀ W, Calls Try.prog 11 #[.string a0, .int .i64 20] W fun e w' => e = .returned (.string (B u)) ∧ Below W.heap.size W w')
  have c1 := Lib.hid (fun W => by have h := HCUT.out a1 60 W; rw [HT.out] at h; exact h : ∀ W, Calls Try.prog 11 #[.string a1, .int .i64 60] W fun e w' => e = .returned (.string (B t)) ∧ Below W.heap.size W w')
  have hsu : (B u).size = u.length := B_size u
  have hst : (B t).size = t.length := B_size t
  have HSU := Lib.hid hsu
  rcases letters_or u with hlet | ⟨kb, hkb, hgood, hbad⟩
  · have hR := letters_parse u (by omega) hlet
    have HOF := Lib.hid (fun W => Of_ok (B u) (by rw [hsu]; omega) hR rfl W)
    have hcn := cnt_of (by rw [hsu]; omega) hR rfl
    have HFI := Lib.hid (fun W g (hI : IsP W g (catN (u.map litN))) => Find_calls hI (wf_R hR trivial) (okT_R hR trivial) (by rw [hsu] at hcn; omega) (t := B t) (by rw [hst]; omega) 0)
    have HLET := Lib.hid hlet
    clear hR hcn hlet
    go_enter Try.func5, Try.ntmps5
    go_wp2_with (first
      | (go_at_call 11; (with_reducible refine (c0.out _).mono ?_); rintro e w1 ⟨rfl, hb⟩; have HB1 := Lib.hid hb; clear hb)
      | (go_at_call 11; (with_reducible refine (c1.out _).mono ?_); rintro e w2 ⟨rfl, hb⟩; have HB2 := Lib.hid (HB1.out.trans (hb.mono HB1.out.size)); clear hb))
    go_loopg [5] (u.length + 1) (fun gk v5 wr => ∃ i : Int, v5 = .int .i64 i ∧ 0 ≤ i ∧ i ≤ (u.length : Int) ∧ (u.length : Int) < gk + i ∧ Hid (Below w.heap.size w wr))
    case atStart => exact ⟨0, rfl, by omega, by omega, by omega, HB2⟩
    case round =>
      obtain ⟨i, rfl, hi0, hi, hgk, HBR⟩ := hrel
      by_cases hlt : i < (u.length : Int)
      · have hd1 : decide (i < (u.length : Int)) = true := decide_eq_true hlt
        have hbt := bt_at (B u) i (by rw [hsu]; omega)
        have hcv : 97 ≤ bt (B u) i ∧ bt (B u) i ≤ 122 := by
          obtain ⟨q, rfl⟩ := Int.eq_ofNat_of_zero_le hi0
          have hc := HLET.out _ (List.getElem_mem (show q < u.length by omega))
          rw [bt_B u q (by omega)]
          omega
        generalize bt (B u) i = c at hbt hcv
        have e1 : decide (c < 97) = false := decide_eq_false (by omega)
        have e2 : decide (c > 122) = false := decide_eq_false (by omega)
        have e3 : decide (122 < c) = false := decide_eq_false (by omega)
        go_wp2
        go_roundg (gk - 1)
        case measure => omega
        case rel => exact ⟨i + 1, by (simp <;> (unfold wrap64; omega)), by omega, by omega, by omega, HBR⟩
      · obtain rfl : i = (u.length : Int) := by omega
        have hd1 : decide ((u.length : Int) < (u.length : Int)) = false := by simp
        go_wp2_with (go_at_call 12; (with_reducible refine (HOF.out _).mono ?_); rintro e w3 ⟨g, rfl, hp, hb⟩; have HP3 := Lib.hid hp; have HB3 := Lib.hid (HBR.out.trans (hb.mono HBR.out.size)); clear hp hb)
        go_loopg [9, 10] (t.length + 2) (fun gk v9 v10 wr => ∃ av i : Int, v9 = .int .i64 av ∧ v10 = .int .i64 i ∧ -30 ≤ i ∧ i + (u.length : Int) ≤ (t.length : Int) ∧ i + 1 < gk ∧ Hid (AtI u t i av) ∧ Hid (-1 ≤ av ∧ av ≤ 60) ∧ Hid (Below w.heap.size w wr) ∧ Hid (IsP wr g (catN (u.map litN))))
        case atStart => exact ⟨-1, _, rfl, rfl, by omega, by omega, by omega, Lib.hid (.inl ⟨rfl, fun k h1 h2 => by omega⟩), Lib.hid (by omega), HB3, HP3⟩
        case round =>
          obtain ⟨av, i, rfl, rfl, hi0, hi, hgk2, HAT, HAV, HBL, HPL⟩ := hrel
          by_cases hneg : 0 ≤ i
          · have hd1 : decide (i ≥ 0) = true := decide_eq_true hneg
            have hw1 : wrap64 (i + (u.length : Int)) = i + (u.length : Int) := by unfold wrap64; omega
            go_wp2
            · rename_i hc
              have HY : AtI u t (i - 1) i := by
                have hh := (slice_has hneg hc).1 rfl
                obtain ⟨q, rfl⟩ := Int.eq_ofNat_of_zero_le hneg
                exact at_yes HAT.out (by simpa using hh) (by omega)
              go_roundg (gk - 1)
              case measure => omega
              case rel => exact ⟨i, i - 1, rfl, rfl, by omega, by omega, by omega, Lib.hid HY, Lib.hid (by omega), HBL, HPL⟩
            · rename_i hc
              have HY : AtI u t (i - 1) av := by
                have hh : ¬ Has u t i.toNat := fun hx => by have := (slice_has hneg hc).2 hx; cases this
                obtain ⟨q, rfl⟩ := Int.eq_ofNat_of_zero_le hneg
                exact at_no HAT.out (by simpa using hh)
              go_roundg (gk - 1)
              case measure => omega
              case rel => exact ⟨av, i - 1, rfl, rfl, by omega, by omega, by omega, Lib.hid HY, HAV, HBL, HPL⟩
          · have hd1 : decide (i ≥ 0) = false := decide_eq_false hneg
            obtain ⟨a, b, ok, hm, hf⟩ := HFI.out wr g HPL.out
            have HF := Lib.hid hf
            clear hf
            have hav := HAV.out
            rcases plain_find hm (at_end HAT.out (by omega)) with ⟨rfl, rfl⟩ | ⟨rfl, rfl, rfl, hpos⟩
            · clear hm
              have hd2 : decide ((-1 : Int) ≥ 0) = false := rfl
              go_wp2_with (first
                | (go_at_call 15; (with_reducible refine HF.out.mono ?_); rintro e w4 ⟨rfl, hb⟩; have HB4 := Lib.hid (HBL.out.trans (hb.mono HBL.out.size)); clear hb)
                | (go_at_call 14; refine (HAW.out _).mono ?_; rintro e w7 ⟨rfl, hb⟩; have HB7 := Lib.hid (HB4.out.trans (hb.mono HB4.out.size)); clear hb))
              go_ret
              exact ⟨rfl, HB7.out⟩
            · clear hm
              have hd2 : decide (a ≥ 0) = true := decide_eq_true hpos
              have hd3 : decide (a = a) = true := decide_eq_true rfl
              have hw2 : wrap64 (a + (u.length : Int)) = a + (u.length : Int) := by unfold wrap64; omega
              go_wp2_with (first
                | (go_at_call 15; (with_reducible refine HF.out.mono ?_); rintro e w4 ⟨rfl, hb⟩; have HB4 := Lib.hid (HBL.out.trans (hb.mono HBL.out.size)); clear hb)
                | (go_at_call 14; refine (HAW.out _).mono ?_; rintro e w7 ⟨rfl, hb⟩; have HB7 := Lib.hid (HB4.out.trans (hb.mono HB4.out.size)); clear hb))
              go_ret
              exact ⟨by simp, HB7.out⟩
  · have hcb : ¬ (97 ≤ bt (B u) (kb : Int) ∧ bt (B u) (kb : Int) ≤ 122) := by
      rw [bt_B u kb hkb]
      omega
    have HGOOD : Hid (∀ i : Int, 0 ≤ i → i < (kb : Int) → 97 ≤ bt (B u) i ∧ bt (B u) i ≤ 122) := Lib.hid (fun i h0 h1 => by
      obtain ⟨q, rfl⟩ := Int.eq_ofNat_of_zero_le h0
      have := hgood q (by omega)
      rw [bt_B u q (by omega)]
      omega)
    clear hgood hbad
    generalize hkk : (kb : Int) = kk at hcb HGOOD
    have hk0 : 0 ≤ kk := by omega
    have hk1 : kk < (u.length : Int) := by omega
    clear hkk hkb
    go_enter Try.func5, Try.ntmps5
    go_wp2_with (first
      | (go_at_call 11; (with_reducible refine (c0.out _).mono ?_); rintro e w1 ⟨rfl, hb⟩; have HB1 := Lib.hid hb; clear hb)
      | (go_at_call 11; (with_reducible refine (c1.out _).mono ?_); rintro e w2 ⟨rfl, hb⟩; have HB2 := Lib.hid (HB1.out.trans (hb.mono HB1.out.size)); clear hb))
    go_loopg [5] (u.length + 1) (fun gk v5 wr => ∃ i : Int, v5 = .int .i64 i ∧ 0 ≤ i ∧ i ≤ kk ∧ (u.length : Int) < gk + i ∧ Hid (Below w.heap.size w wr))
    case atStart => exact ⟨0, rfl, by omega, by omega, by omega, HB2⟩
    case round =>
      obtain ⟨i, rfl, hi0, hi, hgk, HBR⟩ := hrel
      have hd1 : decide (i < (u.length : Int)) = true := decide_eq_true (by omega)
      have hbt := bt_at (B u) i (by rw [hsu]; omega)
      by_cases hlt : i < kk
      · have hcv := HGOOD.out i hi0 hlt
        generalize bt (B u) i = c at hbt hcv
        have e1 : decide (c < 97) = false := decide_eq_false (by omega)
        have e2 : decide (c > 122) = false := decide_eq_false (by omega)
        have e3 : decide (122 < c) = false := decide_eq_false (by omega)
        go_wp2
        go_roundg (gk - 1)
        case measure => omega
        case rel => exact ⟨i + 1, by (simp <;> (unfold wrap64; omega)), by omega, by omega, by omega, HBR⟩
      · have hcv : ¬ (97 ≤ bt (B u) i ∧ bt (B u) i ≤ 122) := by
          have : i = kk := by omega
          rw [this]; exact hcb
        generalize bt (B u) i = c at hbt hcv
        by_cases h97 : c < 97
        · have e1 : decide (c < 97) = true := decide_eq_true h97
          go_wp2_with (go_at_call 14; refine (HAW.out _).mono ?_; rintro e w7 ⟨rfl, hb⟩; have HB7 := Lib.hid (HBR.out.trans (hb.mono HBR.out.size)); clear hb)
          go_ret
          exact ⟨rfl, HB7.out⟩
        · have e1 : decide (c < 97) = false := decide_eq_false h97
          have e2 : decide (c > 122) = true := decide_eq_true (by omega)
          have e3 : decide (122 < c) = true := decide_eq_true (by omega)
          go_wp2_with (go_at_call 14; refine (HAW.out _).mono ?_; rintro e w7 ⟨rfl, hb⟩; have HB7 := Lib.hid (HBR.out.trans (hb.mono HBR.out.size)); clear hb)
          go_ret
          exact ⟨rfl, HB7.out⟩
end Go.Proofs.Ythlffghlkggimaa.Pr
