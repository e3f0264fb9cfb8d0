/- The document's Print of a tree, walked by hand. -/
import Derived.Test.YtgkojnpbgkglgaaDoorPuAsT
import Derived.Test.YtgkojnpbgkglgaaDoorPr8
set_option linter.unusedVariables false
set_option linter.unusedSimpArgs false
namespace Go.Proofs.YtgkojnpbgkglgaaDoor.Pr
open Go Go.RowKit Go.Proofs.YtgkojnpbgkglgaaDoorW.PrintWords Go.Proofs.YtgkojnpbgkglgaaDoorW.PrintLast Go.Proofs.YtgkojnpbgkglgaaDoorW.PrintMore

mutual
def prR : RNode → List UInt8
  | ⟨o, t, _, ks⟩ => 40 :: (bL o ++ (txA t ++ (prRs ks ++ [41])))
def prRs : List RNode → List UInt8
  | [] => []
  | k :: r => 32 :: (prR k ++ prRs r)
end
theorem prR_eq (n : RNode) : prR n = 40 :: (bL n.f0 ++ (txA n.f1 ++ (prRs n.f3 ++ [41]))) := by cases n; rw [prR]
mutual
theorem prR_told : ∀ n : ANode, prR (tlN n) = prA n
  | ⟨o, t, a, ks⟩ => by rw [tlN, prR, prA, prRs_told ks]
theorem prRs_told : ∀ l : List ANode, prRs (tlL l) = prAs l
  | [] => by rw [tlL, prRs, prAs]
  | k :: r => by rw [tlL, prRs, prAs, prR_told k, prRs_told r]
end
theorem prRs_app (a b : List RNode) : prRs (a ++ b) = prRs a ++ prRs b := by
  induction a with
  | nil => simp [prRs]
  | cons k r ih => simp [prRs, ih]
theorem prRs_snoc {ks : List RNode} (i : Nat) (hi : i < ks.length) : prRs (ks.take (i + 1)) = prRs (ks.take i) ++ 32 :: prR ks[i] := by
  rw [List.take_succ_eq_append_getElem hi, prRs_app]
  simp [prRs]
theorem prRs_le {ks : List RNode} (i : Nat) (hi : i < ks.length) : (prRs (ks.take i)).length + 1 + (prR ks[i]).length ≤ (prRs ks).length := by
  have h : prRs ks = prRs (ks.take (i + 1)) ++ prRs (ks.drop (i + 1)) := by rw [← prRs_app, List.take_append_drop]
  rw [h, prRs_snoc i hi]
  simp only [List.length_append, List.length_cons]
  omega
theorem prRs_len (l : List RNode) : l.length ≤ (prRs l).length := by
  induction l with
  | nil => simp [prRs]
  | cons k r ih => simp [prRs]; omega
theorem bL_B (s : ByteArray) : B (bL s) = s := B_eta s
theorem text_calls (t : ByteArray) (ht : t.size ≤ 1000000000000) (w : World) (hT : TB w) : Calls Tryd.prog 28 #[.string t] w fun e w' => e = .returned (.string (B (Lib.decDigits t.size ++ 58 :: bL t))) ∧ Below w.heap.size w w' := by
  have h : Ev (fun k => scriberef01_Text.f k t) (B (Lib.decDigits t.size ++ 58 :: bL t)) := by
    unfold scriberef01_Text.f
    refine Ev.bind' (digits_ev t.size (by omega)) ?_
    have hd := nDigits_le t.size (by omega)
    have hs : (B (Lib.decDigits t.size)).size = Lib.nDigits t.size := by rw [B_size]; exact Lib.decDigits_length _
    refine Ev.pos (by omega) (Ev.pos (by rw [ByteArray.size_append, hs]; show _ + 1 + _ ≤ _; omega) ?_)
    have e : B (Lib.decDigits t.size) ++ (⟨#[58]⟩ : ByteArray) ++ t = B (Lib.decDigits t.size ++ 58 :: bL t) := by
      rw [show (⟨#[58]⟩ : ByteArray) = B [58] from rfl, B_append]
      exact B_ext (by rw [Joins.data_append]; simp [B, bL])
    rw [e]
    exact Ev.now _
  obtain ⟨k, hk⟩ := Ev.rounds h
  exact scriberef01_Text.calls k t _ w hT hk
theorem kidR_facts {w : World} {A : Option Addr} {ks : List RNode} (h : Kd.C k29 w A ks.length ks) (i : Nat) (hi : i < ks.length) :
    ∃ ad A3 c3, A = some ad ∧ w.cell? (ad.add (i * 4)) = some (.string ks[i].f0) ∧ w.cell? ⟨(ad.add (i * 4)).block, (ad.add (i * 4)).off + 1, none⟩ = some (.string ks[i].f1) ∧ w.cell? ⟨(ad.add (i * 4)).block, (ad.add (i * 4)).off + 2, none⟩ = some (.int .i64 ks[i].f2) ∧ w.cell? ⟨(ad.add (i * 4)).block, (ad.add (i * 4)).off + 3, none⟩ = some (.slice A3 ks[i].f3.length c3) ∧ ks[i].f3.length ≤ c3 ∧ Kd.C k29 w A3 ks[i].f3.length ks[i].f3 := by
  obtain ⟨ad, A3, c3, e, h0, h1, h2, h3, l3, g3⟩ := at_T29 h (i : Int) (by omega) (by omega)
  have hr : rd_T29 ks (i : Int) = ks[i] := by simp [rd_T29, hi]
  rw [hr] at h0 h1 h2 h3 l3 g3
  exact ⟨ad, A3, c3, e, h0, h1, h2, h3, l3, g3⟩
theorem kidRC {w W : World} {A : Option Addr} {ks : List RNode} (h : Kd.C k29 w A ks.length ks) (hb : Below w.heap.size w W) (i : Nat) (hi : i < ks.length) :
    ∃ ad A3 c3, A = some ad ∧ W.cell? (ad.add (i * 4)) = some (.string ks[i].f0) ∧ W.cell? ⟨(ad.add (i * 4)).block, (ad.add (i * 4)).off + 1, none⟩ = some (.string ks[i].f1) ∧ W.cell? ⟨(ad.add (i * 4)).block, (ad.add (i * 4)).off + 2, none⟩ = some (.int .i64 ks[i].f2) ∧ W.cell? ⟨(ad.add (i * 4)).block, (ad.add (i * 4)).off + 3, none⟩ = some (.slice A3 ks[i].f3.length c3) ∧ ks[i].f3.length ≤ c3 ∧ Kd.C k29 w A3 ks[i].f3.length ks[i].f3 := by
  obtain ⟨ad, A3, c3, eA, f0, f1, f2, f3, l3, g3⟩ := kidR_facts h i hi
  have b0 := World.block_lt_of_cell? _ _ f0
  exact ⟨ad, A3, c3, eA, (hb.cell (p := ad.add (i * 4)) b0).trans f0, (hb.cell (p := ⟨(ad.add (i * 4)).block, (ad.add (i * 4)).off + 1, none⟩) b0).trans f1, (hb.cell (p := ⟨(ad.add (i * 4)).block, (ad.add (i * 4)).off + 2, none⟩) b0).trans f2, (hb.cell (p := ⟨(ad.add (i * 4)).block, (ad.add (i * 4)).off + 3, none⟩) b0).trans f3, l3, g3⟩

set_option maxHeartbeats 8000000 in
set_option maxRecDepth 100000 in
theorem rprint_walk (w0 : World) (hT : TB w0) (sz : Nat) (hz : sz ≤ 1000000000000) : ∀ (n : RNode) (A : Option Addr) (c : Nat) (W : World), (prR n).length ≤ sz → n.f3.length ≤ c → Kd.C k29 w0 A n.f3.length n.f3 → Below w0.heap.size w0 W →
    Calls Tryd.prog 17 #[.agg #[.string n.f0, .string n.f1, .int .i64 n.f2, .slice A n.f3.length c]] W fun e W' => e = .returned (.string (B (prR n))) ∧ Below w0.heap.size w0 W' := by
  induction sz with
  | zero => intro n A c W h; rw [prR_eq] at h; simp at h
  | succ sz ih =>
    rintro ⟨o, t, a, ks⟩ A c W hsz hc hC hB
    dsimp only at hc hC ⊢
    have ih := ih (by omega)
    have hu := Tryd.underlying29
    have hbo := bL_len o
    have hbt := bL_len t
    have hprl : (prR ⟨o, t, a, ks⟩).length = 2 + o.size + (txA t).length + (prRs ks).length := by rw [prR_eq]; simp only [List.length_cons, List.length_append, List.length_nil, hbo]; omega
    have htx : t.size ≤ (txA t).length := by
      unfold txA
      split
      · omega
      · simp only [List.length_cons, List.length_append, hbt]; omega
    rw [hprl] at hsz
    have hkl := prRs_len ks
    obtain ⟨hx, hhx⟩ : ∃ hx, hx = 40 :: (bL o ++ txA t) := ⟨_, rfl⟩
    have hlx : hx.length = 1 + o.size + (txA t).length := by rw [hhx]; simp only [List.length_append, List.length_cons, hbo]; omega
    have HPR := Lib.hid (show prR ⟨o, t, a, ks⟩ = hx ++ prRs ks ++ [41] by rw [prR_eq, hhx]; simp)
    have HB := Lib.hid hB
    have HC := Lib.hid hC
    clear hC hB
    have HBX := Lib.hid (heap_alloc_new W (.cells #[.string o, .string t, .int .i64 a, .slice A ks.length c] 29))
    have HB1 := Lib.hid (HB.out.alloc HB.out.size (.cells #[.string o, .string t, .int .i64 a, .slice A ks.length c] 29))
    have HIH := Lib.hid ih
    clear ih
    have c1 : (1 + o.size ≤ 9223372036854775807) = True := eq_true (by omega)
    have c2 : decide (1 + o.size ≤ 9223372036854775807) = true := decide_eq_true (by omega)
    have c3 : (9223372036854775807 < 1 + o.size) = False := eq_false (by omega)
    have ES0 : Hid ((⟨#[40]⟩ : ByteArray) ++ o = B (40 :: bL o)) := Lib.hid (B_ext (by rw [Joins.data_append]; simp [B, bL]))
    go_enter Tryd.func17, Tryd.ntmps17
    go_upto_if 12 with (fail)
    go_cut [3] (fun v3 wc => v3 = .string (B hx) ∧ Hid (wc.heap[W.heap.size]? = some (.cells #[.string o, .string t, .int .i64 a, .slice A ks.length c] 29 (0, 0))) ∧ Hid (Below w0.heap.size w0 wc))
    case first =>
      by_cases ht : t.size = 0
      · have g1 : decide (0 < (t.size : Int)) = false := decide_eq_false (by omega)
        have g2 : decide (0 < t.size) = false := decide_eq_false (by omega)
        have g3 : decide ((t.size : Int) > 0) = false := decide_eq_false (by omega)
        go_wp2
        go_meet
        case rel => exact ⟨by rw [ES0.out, hhx]; unfold txA; rw [if_pos ht, List.append_nil], HBX, HB1⟩
      · have g1 : decide (0 < (t.size : Int)) = true := decide_eq_true (by omega)
        have g2 : decide (0 < t.size) = true := decide_eq_true (by omega)
        have g3 : decide ((t.size : Int) > 0) = true := decide_eq_true (by omega)
        obtain ⟨q, hq⟩ : ∃ q, B (Lib.decDigits t.size ++ 58 :: bL t) = q := ⟨_, rfl⟩
        have HX := Lib.hid (text_calls t (by omega) _ (hT.below HB1.out))
        rw [hq] at HX
        have zq : q.size = Lib.nDigits t.size + 1 + t.size := by rw [← hq, B_size, List.length_append, List.length_cons, bL_len, Lib.decDigits_length]; omega
        have HQ := Lib.hid hq
        clear hq
        have hnd := nDigits_le t.size (by omega)
        have zz : ((⟨#[40]⟩ : ByteArray) ++ o).size = 1 + o.size := by rw [ByteArray.size_append]; rfl
        have zy : ((⟨#[32]⟩ : ByteArray) ++ q).size = 1 + q.size := by rw [ByteArray.size_append]; rfl
        have d1 : (1 + q.size ≤ 9223372036854775807) = True := eq_true (by omega)
        have d2 : decide (1 + q.size ≤ 9223372036854775807) = true := decide_eq_true (by omega)
        have d3 : (9223372036854775807 < 1 + q.size) = False := eq_false (by omega)
        have d4 : (((⟨#[40]⟩ : ByteArray) ++ o).size + ((⟨#[32]⟩ : ByteArray) ++ q).size ≤ 9223372036854775807) = True := eq_true (by omega)
        have d5 : decide (((⟨#[40]⟩ : ByteArray) ++ o).size + ((⟨#[32]⟩ : ByteArray) ++ q).size ≤ 9223372036854775807) = true := decide_eq_true (by omega)
        have d6 : (9223372036854775807 < ((⟨#[40]⟩ : ByteArray) ++ o).size + ((⟨#[32]⟩ : ByteArray) ++ q).size) = False := eq_false (by omega)
        have d7 : (9223372036854775807 < 1 + o.size + (1 + q.size)) = False := eq_false (by omega)
        clear zz zy zq
        go_wp2_with (go_at_call 28; (with_reducible refine HX.out.mono ?_); rintro e w3 ⟨rfl, hb3⟩)
        go_meet
        case rel => exact ⟨by rw [ES0.out, ← HQ.out, hhx]; unfold txA; rw [if_neg ht]; exact congrArg Value.string (B_ext (by rw [Joins.data_append, Joins.data_append]; simp [B])), Lib.hid ((hb3.block _ (Array.getElem?_eq_some_iff.1 HBX.out).1).trans HBX.out), Lib.hid (HB1.out.trans (hb3.mono HB1.out.size))⟩
    case rest =>
      obtain ⟨rfl, HBY, HBW⟩ := hcut
      clear HBX HB1 c1 c2 c3 ES0
      have k3 : wc.cell? ⟨W.heap.size, 3, none⟩ = some (.slice A ks.length c) := (blk_cell HBY.out 3).trans rfl
      go_wp2
      go_loopg [3, 22] (ks.length + 1) (fun gk s v wr => ∃ i : Nat, s = .string (B (hx ++ prRs (ks.take i))) ∧ v = .int .i64 (i : Int) ∧ i ≤ ks.length ∧ ks.length < gk + i ∧ Hid (Below w0.heap.size w0 wr))
      case atStart => exact ⟨0, by simp [prRs], rfl, by omega, by omega, HBW⟩
      case round =>
        clear HBW HBY k3
        obtain ⟨i, rfl, rfl, hi, hgk, HB⟩ := hrel
        by_cases hlt : i < ks.length
        · have hdc : decide ((i : Int) < (ks.length : Int)) = true := decide_eq_true (by omega)
          have hple := prRs_le i hlt
          have hsnoc := Lib.hid (prRs_snoc i hlt)
          obtain ⟨ad, A3, c3, eA, f0, f1, f2, f3, l3, g3⟩ := kidRC HC.out HB.out i hlt
          have IH := Lib.hid (fun W' h => HIH.out ks[i] A3 c3 W' (by omega) l3 g3 h)
          subst eA
          clear g3
          obtain ⟨s, hs⟩ : ∃ s, B (hx ++ prRs (ks.take i)) = s := ⟨_, rfl⟩
          obtain ⟨q, hq⟩ : ∃ q, B (prR ks[i]) = q := ⟨_, rfl⟩
          have zs : s.size = hx.length + (prRs (ks.take i)).length := by rw [← hs, B_size, List.length_append]
          have zq : q.size = (prR ks[i]).length := by rw [← hq, B_size]
          have zy : ((⟨#[32]⟩ : ByteArray) ++ q).size = 1 + q.size := by rw [ByteArray.size_append]; rfl
          rw [hs]
          rw [hq] at IH
          have HS := Lib.hid hs
          have HQ := Lib.hid hq
          clear hs hq
          have d1 : (1 + q.size ≤ 9223372036854775807) = True := eq_true (by omega)
          have d2 : decide (1 + q.size ≤ 9223372036854775807) = true := decide_eq_true (by omega)
          have d3 : (9223372036854775807 < 1 + q.size) = False := eq_false (by omega)
          have d4 : (s.size + ((⟨#[32]⟩ : ByteArray) ++ q).size ≤ 9223372036854775807) = True := eq_true (by omega)
          have d5 : decide (s.size + ((⟨#[32]⟩ : ByteArray) ++ q).size ≤ 9223372036854775807) = true := decide_eq_true (by omega)
          have d6 : (9223372036854775807 < s.size + ((⟨#[32]⟩ : ByteArray) ++ q).size) = False := eq_false (by omega)
          have d7 : (9223372036854775807 < s.size + (1 + q.size)) = False := eq_false (by omega)
          clear zs zq zy
          go_wp2_with (go_at_call 17; (with_reducible refine (IH.out _ (HB.out.alloc HB.out.size _)).mono ?_); rintro e w4 ⟨rfl, hb4⟩)
          go_roundg (gk - 1)
          case measure => omega
          case rel => exact ⟨i + 1, by rw [hsnoc.out, ← HS.out, ← HQ.out]; exact congrArg Value.string (B_ext (by rw [Joins.data_append, Joins.data_append]; simp [B])), by (simp <;> (unfold wrap64; omega)), by omega, by omega, Lib.hid hb4⟩
        · obtain rfl : i = ks.length := by omega
          have hdc : decide ((ks.length : Int) < (ks.length : Int)) = false := decide_eq_false (by omega)
          rw [List.take_length]
          obtain ⟨s, hs⟩ : ∃ s, B (hx ++ prRs ks) = s := ⟨_, rfl⟩
          have zs : s.size = hx.length + (prRs ks).length := by rw [← hs, B_size, List.length_append]
          rw [hs]
          have HS := Lib.hid hs
          clear hs
          have d1 : (s.size + 1 ≤ 9223372036854775807) = True := eq_true (by omega)
          have d2 : decide (s.size + 1 ≤ 9223372036854775807) = true := decide_eq_true (by omega)
          have d3 : (9223372036854775807 < s.size + 1) = False := eq_false (by omega)
          clear zs
          go_wp2
          go_ret
          refine ⟨?_, HB.out⟩
          rw [HPR.out, ← HS.out]
          exact congrArg (fun x => Ending.returned (Value.string x)) (B_ext (by rw [Joins.data_append]; simp [B]))
end Go.Proofs.YtgkojnpbgkglgaaDoor.Pr
