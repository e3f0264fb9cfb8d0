/- ast.Same, walked by hand (with slices.EqualFunc at its nodes). -/
import Derived.Test.YtgkojnpbgkglgaaDoorPuAsW
set_option linter.unusedVariables false
set_option linter.unusedSimpArgs false
namespace Go.Proofs.YtgkojnpbgkglgaaDoor.Pr
open Go Go.RowKit Go.Proofs.YtgkojnpbgkglgaaDoorW.PrintWords Go.Proofs.YtgkojnpbgkglgaaDoorW.PrintLast Go.Proofs.YtgkojnpbgkglgaaDoorW.PrintMore

mutual
def sameT : ANode → ANode → Bool
  | ⟨o, t, _, ks⟩, ⟨o', t', _, ks'⟩ => (o.toList == o'.toList) && (t.toList == t'.toList) && sameL ks ks'
def sameL : List ANode → List ANode → Bool
  | [], [] => true
  | k :: r, k' :: r' => sameT k k' && sameL r r'
  | [], _ :: _ => false
  | _ :: _, [] => false
end
theorem sameL_len : ∀ (a b : List ANode), a.length ≠ b.length → sameL a b = false
  | [], [], h => absurd rfl h
  | [], _ :: _, _ => by rw [sameL]
  | _ :: _, [], _ => by rw [sameL]
  | k :: r, k' :: r', h => by rw [sameL, sameL_len r r' (fun e => h (by simp [e]))]; simp
theorem sameL_drop {a b : List ANode} (i : Nat) (ha : i < a.length) (hb : i < b.length) : sameL (a.drop i) (b.drop i) = (sameT a[i] b[i] && sameL (a.drop (i + 1)) (b.drop (i + 1))) := by
  rw [List.drop_eq_getElem_cons ha, List.drop_eq_getElem_cons hb, sameL]
def ast_Same.f (o t : ByteArray) (a : Int) (ks : List ANode) (o' t' : ByteArray) (a' : Int) (ks' : List ANode) : Option Bool := some (sameT ⟨o, t, a, ks⟩ ⟨o', t', a', ks'⟩)
theorem kidC {w W : World} {A : Option Addr} {ks : List ANode} (h : Kd.C k26 w A ks.length ks) (hb : Below w.heap.size w W) (i : Nat) (hi : i < ks.length) :
    ∃ ad A3 c3, A = some ad ∧ W.cell? (ad.add (i * 4)) = some (.string ks[i].f0) ∧ W.cell? ⟨(ad.add (i * 4)).block, (ad.add (i * 4)).off + 1, none⟩ = some (.string ks[i].f1) ∧ W.cell? ⟨(ad.add (i * 4)).block, (ad.add (i * 4)).off + 2, none⟩ = some (.int .i64 ks[i].f2) ∧ W.cell? ⟨(ad.add (i * 4)).block, (ad.add (i * 4)).off + 3, none⟩ = some (.slice A3 ks[i].f3.length c3) ∧ ks[i].f3.length ≤ c3 ∧ Kd.C k26 w A3 ks[i].f3.length ks[i].f3 := by
  obtain ⟨ad, A3, c3, eA, f0, f1, f2, f3, l3, g3⟩ := kid_facts h i hi
  have b0 := World.block_lt_of_cell? _ _ f0
  exact ⟨ad, A3, c3, eA, (hb.cell (p := ad.add (i * 4)) b0).trans f0, (hb.cell (p := ⟨(ad.add (i * 4)).block, (ad.add (i * 4)).off + 1, none⟩) b0).trans f1, (hb.cell (p := ⟨(ad.add (i * 4)).block, (ad.add (i * 4)).off + 2, none⟩) b0).trans f2, (hb.cell (p := ⟨(ad.add (i * 4)).block, (ad.add (i * 4)).off + 3, none⟩) b0).trans f3, l3, g3⟩
abbrev eqF : Nat := 27

/-- what Same is to answer at trees of so many nodes -/
def SameAt (w0 : World) (sz : Nat) : Prop := ∀ (n m : ANode) (A B : Option Addr) (c d : Nat) (W : World), (allT 0 n).length ≤ sz → n.f3.length ≤ c → m.f3.length ≤ d → Kd.C k26 w0 A n.f3.length n.f3 → Kd.C k26 w0 B m.f3.length m.f3 → Below w0.heap.size w0 W →
    Calls Tryd.prog 15 #[.agg #[.string n.f0, .string n.f1, .int .i64 n.f2, .slice A n.f3.length c], .agg #[.string m.f0, .string m.f1, .int .i64 m.f2, .slice B m.f3.length d]] W fun e W' => e = .returned (.bool (sameT n m)) ∧ Below w0.heap.size w0 W'
set_option maxHeartbeats 8000000 in
set_option maxRecDepth 100000 in
theorem equal_walk (w0 : World) (sz : Nat) (ih : SameAt w0 sz) (ks ms : List ANode) (A B : Option Addr) (c d : Nat) (W : World) (hsz : (allKs 0 ks).length ≤ sz) (hc : ks.length ≤ c) (hd : ms.length ≤ d) (hC : Kd.C k26 w0 A ks.length ks) (hD : Kd.C k26 w0 B ms.length ms) (hB : Below w0.heap.size w0 W) :
    Calls Tryd.prog eqF #[.slice A ks.length c, .slice B ms.length d, .func (.func 15) #[] #[]] W fun e W' => e = .returned (.bool (sameL ks ms)) ∧ Below w0.heap.size w0 W' := by
  have hu := Tryd.underlying26
  have hkb := hC.2.1
  by_cases hl : ks.length = ms.length
  · have HB := Lib.hid hB
    have HC := Lib.hid hC
    have HD := Lib.hid hD
    have hne : ((ks.length : Int) != (ms.length : Int)) = false := by simp [hl]
    obtain ⟨r, hr⟩ : ∃ r, sameL ks ms = r := ⟨_, rfl⟩
    rw [hr]
    have HL := Lib.hid hl
    clear hC hD hB hl
    unfold eqF
    go_enter Tryd.func27, Tryd.ntmps27
    go_wp2
    go_loopg [17] (ks.length + 1) (fun gk v wr => ∃ i : Nat, v = .int .i64 (i : Int) ∧ i ≤ ks.length ∧ ks.length < gk + i ∧ Hid (sameL (ks.drop i) (ms.drop i) = r) ∧ Hid (Below w0.heap.size w0 wr))
    case atStart => exact ⟨0, rfl, by omega, by omega, Lib.hid (by simpa using hr), HB⟩
    case round =>
      clear HB hr
      obtain ⟨i, rfl, hi, hgk, HR, HB⟩ := hrel
      by_cases hlt : i < ks.length
      · have hdc : decide ((i : Int) < (ks.length : Int)) = true := decide_eq_true (by omega)
        have hR := HR.out
        have hlt2 : i < ms.length := by have := HL.out; omega
        rw [sameL_drop i hlt hlt2] at hR
        obtain ⟨ad, A3, c3, eA, f0, f1, f2, f3, l3, g3⟩ := kidC HC.out HB.out i hlt
        obtain ⟨bd, B3, d3, eB, e0, e1, e2, e3, m3, h3⟩ := kidC HD.out (HB.out.alloc HB.out.size (.cells #[.string ks[i].f0, .string ks[i].f1, .int .i64 ks[i].f2, .slice A3 ks[i].f3.length c3] 26)) i hlt2
        have hkid := kid_len i hlt 0
        have IH := Lib.hid (fun W' h => ih ks[i] ms[i] A3 B3 c3 d3 W' (by omega) l3 m3 g3 h3 h)
        subst eA eB
        clear g3 h3
        cases hs : sameT ks[i] ms[i] with
        | true =>
          rw [hs, Bool.true_and] at hR
          rw [hs] at IH
          clear hs HR
          have HR := Lib.hid hR
          clear hR
          go_wp2_with (go_at_call 15; (with_reducible refine (IH.out _ ((HB.out.alloc HB.out.size _).alloc (by have := HB.out.size; simp; omega) _)).mono ?_); rintro e w4 ⟨rfl, hb4⟩)
          go_roundg (gk - 1)
          case measure => omega
          case rel => exact ⟨i + 1, by (simp <;> (unfold wrap64; omega)), by omega, by omega, HR, Lib.hid hb4⟩
        | false =>
          rw [hs, Bool.false_and] at hR
          rw [hs] at IH
          clear hs HR
          subst hR
          go_wp2_with (go_at_call 15; (with_reducible refine (IH.out _ ((HB.out.alloc HB.out.size _).alloc (by have := HB.out.size; simp; omega) _)).mono ?_); rintro e w4 ⟨rfl, hb4⟩)
          go_ret
          exact ⟨rfl, hb4⟩
      · obtain rfl : i = ks.length := by omega
        have hdc : decide ((ks.length : Int) < (ks.length : Int)) = false := decide_eq_false (by omega)
        have hR := HR.out
        rw [List.drop_length, HL.out, List.drop_length, sameL] at hR
        subst hR
        go_wp2
        go_ret
        exact ⟨rfl, HB.out⟩
  · rw [sameL_len ks ms hl]
    have hne : ((ks.length : Int) != (ms.length : Int)) = true := by simp; omega
    unfold eqF
    go_enter Tryd.func27, Tryd.ntmps27
    go_wp2
    go_ret
    exact ⟨rfl, hB⟩
set_option maxHeartbeats 8000000 in
set_option maxRecDepth 100000 in
theorem same_walk (w0 : World) (sz : Nat) : SameAt w0 sz := by
  induction sz with
  | zero => intro n m A B c d W h; have := allT_pos 0 n; omega
  | succ sz ih =>
    rintro ⟨o, t, a, ks⟩ ⟨o', t', a', ms⟩ A B c d W hsz hc hd hC hD hB
    dsimp only at hc hd hC hD ⊢
    have hlen : (allT 0 ⟨o, t, a, ks⟩).length = (allKs 0 ks).length + 1 := by rw [allT_eq, List.length_cons]; simp only; rw [allKs_lend (0 + 1) 0]
    rw [hlen] at hsz
    have hu := Tryd.underlying26
    have HE := Lib.hid (fun W' h => equal_walk w0 sz ih ks ms A B c d W' (by omega) hc hd hC hD h)
    have hB2 := Lib.hid ((hB.alloc hB.size (.cells #[.string o, .string t, .int .i64 a, .slice A ks.length c] 26)).alloc (by have := hB.size; simp; omega) (.cells #[.string o', .string t', .int .i64 a', .slice B ms.length d] 26))
    unfold eqF at HE
    rw [sameT]
    obtain ⟨x, hx⟩ : ∃ x, (o.toList == o'.toList) = x := ⟨_, rfl⟩
    obtain ⟨y, hy⟩ : ∃ y, (t.toList == t'.toList) = y := ⟨_, rfl⟩
    rw [hx, hy]
    clear hC hD hB ih
    cases x with
    | false =>
      go_enter Tryd.func15, Tryd.ntmps15
      go_wp2
      go_ret
      exact ⟨rfl, hB2.out⟩
    | true =>
      cases y with
      | false =>
        go_enter Tryd.func15, Tryd.ntmps15
        go_wp2
        go_ret
        exact ⟨rfl, hB2.out⟩
      | true =>
        rw [Bool.true_and, Bool.true_and]
        go_enter Tryd.func15, Tryd.ntmps15
        go_wp2_with (go_at_call 27; (with_reducible refine (HE.out _ hB2.out).mono ?_); rintro e w4 ⟨rfl, hb4⟩)
        go_ret
        exact ⟨rfl, hb4⟩
theorem ast_Same.calls (a0_0 a0_1 : ByteArray) (a0_2 : Int) (A0_3 : Option Addr) (c0_3 : Nat) (l0_3 : List ANode) (a1_0 a1_1 : ByteArray) (a1_2 : Int) (A1_3 : Option Addr) (c1_3 : Nat) (l1_3 : List ANode) (r : Bool) (w : World) (hr0_3 : Kd.C k26 w A0_3 l0_3.length l0_3) (hc0_3 : l0_3.length ≤ c0_3) (hr1_3 : Kd.C k26 w A1_3 l1_3.length l1_3) (hc1_3 : l1_3.length ≤ c1_3) (hT : TB w) (h : ast_Same.f a0_0 a0_1 a0_2 l0_3 a1_0 a1_1 a1_2 l1_3 = some r) :
    Calls Tryd.prog 15 #[.agg #[.string a0_0, .string a0_1, .int .i64 a0_2, .slice A0_3 l0_3.length c0_3], .agg #[.string a1_0, .string a1_1, .int .i64 a1_2, .slice A1_3 l1_3.length c1_3]] w fun e w' => e = .returned (.bool r) ∧ Below w.heap.size w w' := by
  obtain rfl := Option.some.inj h
  exact same_walk w _ ⟨a0_0, a0_1, a0_2, l0_3⟩ ⟨a1_0, a1_1, a1_2, l1_3⟩ A0_3 A1_3 c0_3 c1_3 w (Nat.le_refl _) hc0_3 hc1_3 hr0_3 hr1_3 (Below.refl _ _)
end Go.Proofs.YtgkojnpbgkglgaaDoor.Pr
