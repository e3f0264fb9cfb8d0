/- lex: slash. -/
import Derived.Test.YtpnkcihiliagcaaDoorPuLx4
namespace Go.Proofs.YtpnkcihiliagcaaDoor.Pr
open Go Go.RowKit Go.Proofs.YtpnkcihiliagcaaDoorW.PrintWords Go.Proofs.YtpnkcihiliagcaaDoorW.PrintLast Go.Proofs.YtpnkcihiliagcaaDoorW.PrintMore
set_option linter.unusedVariables false

def befT : List ByteArray := [⟨#[41]⟩, ⟨#[93]⟩, ⟨#[43, 43]⟩, ⟨#[45, 45]⟩]
theorem addr0 (b k : Nat) : (⟨b, 0, none⟩ : Addr).add k = ⟨b, k, none⟩ := by unfold Addr.add; split <;> simp_all
theorem has_bef (W : World) (n : Nat) (hn : n = W.heap.size) (x : ByteArray) : Calls Tryd.prog 43 #[.slice (some ⟨n, 0, none⟩) 4 4, .string x] (W.alloc (.cells #[.string ⟨#[41]⟩, .string ⟨#[93]⟩, .string ⟨#[43, 43]⟩, .string ⟨#[45, 45]⟩] 9)).drew fun e w' => e = .returned (.bool (Lib.containsS befT x)) ∧ w' = (W.alloc (.cells #[.string ⟨#[41]⟩, .string ⟨#[93]⟩, .string ⟨#[43, 43]⟩, .string ⟨#[45, 45]⟩] 9)).drew := by
  subst hn
  have := Tryd.slices_Contains_string W.heap.size 0 4 4 befT x (W.alloc (.cells #[.string ⟨#[41]⟩, .string ⟨#[93]⟩, .string ⟨#[43, 43]⟩, .string ⟨#[45, 45]⟩] 9)).drew (by decide) (by omega) (fun j hj => by
    have hb := heap_alloc_new W (.cells #[.string ⟨#[41]⟩, .string ⟨#[93]⟩, .string ⟨#[43, 43]⟩, .string ⟨#[45, 45]⟩] 9)
    have hb2 : (W.alloc (.cells #[.string ⟨#[41]⟩, .string ⟨#[93]⟩, .string ⟨#[43, 43]⟩, .string ⟨#[45, 45]⟩] 9)).drew.heap[W.heap.size]? = some (.cells #[.string ⟨#[41]⟩, .string ⟨#[93]⟩, .string ⟨#[43, 43]⟩, .string ⟨#[45, 45]⟩] 9 (0, 0)) := by
      show (W.alloc (.cells #[.string ⟨#[41]⟩, .string ⟨#[93]⟩, .string ⟨#[43, 43]⟩, .string ⟨#[45, 45]⟩] 9)).heap[W.heap.size]? = _
      simpa using hb
    have hj4 : j < 4 := hj
    rw [Nat.zero_add]
    refine (blk_cell hb2 j).trans ?_
    have : j = 0 ∨ j = 1 ∨ j = 2 ∨ j = 3 := by omega
    rcases this with rfl | rfl | rfl | rfl <;> rfl)
  exact this
/-- does a slash begin a pattern behind this token -/
def slashT (t : Tok) : Bool := if t.f0 = 2 ∨ t.f0 = 3 ∨ t.f0 = 4 ∨ t.f0 = 5 then false else if t.f0 = 9 then t.f1.toList != [108, 101, 110, 103, 116, 104] else if t.f0 = 8 then !(Lib.containsS befT t.f1) else true
def slashB (ts : List Tok) : Bool := match ts.getLast? with
  | none => true
  | some t => slashT t
set_option maxHeartbeats 8000000 in
set_option maxRecDepth 100000 in
theorem lex_slash_nil (g : Nat) (s : ByteArray) (p : Int) (w0 w : World) (h : LX w0 w g s p []) :
    Calls Tryd.prog 32 #[.pointer (some ⟨g, 0, none⟩)] w fun e w' => e = .returned (.bool true) ∧ LX w0 w' g s p [] := by
  have hu := Tryd.underlying43
  have HL := Lib.hid h
  obtain ⟨v, hb, hR⟩ := h.ex
  obtain ⟨A, c, rfl⟩ := Kd.R_slice hR
  have c2 : w.cell? ⟨g, 2, none⟩ = some (.slice A 0 c) := (blk_cell hb 2).trans rfl
  clear hb hR h
  go_enter Tryd.func32, Tryd.ntmps32
  go_wp2
  go_ret
  exact ⟨rfl, HL.out⟩
set_option maxHeartbeats 8000000 in
set_option maxRecDepth 100000 in
theorem lex_slash_snoc (g : Nat) (s : ByteArray) (p : Int) (ts : List Tok) (t : Tok) (w0 w : World) (hl : ts.length ≤ 1000000) (h : LX w0 w g s p (ts ++ [t])) :
    Calls Tryd.prog 32 #[.pointer (some ⟨g, 0, none⟩)] w fun e w' => e = .returned (.bool (slashT t)) ∧ LX w0 w' g s p (ts ++ [t]) := by
  have hu := Tryd.underlying43
  have hut := Tryd.underlying29
  have HL := Lib.hid h
  obtain ⟨v, hb, hR⟩ := h.ex
  obtain ⟨A, c, rfl⟩ := Kd.R_slice hR
  have hn : (ts ++ [t]).length = ts.length + 1 := by simp
  rw [hn] at hb hR
  obtain ⟨ad, hA, k0, k1, k2⟩ := at_T29 (Kd.R_reads' hR).2.2 (ts.length : Int) (by omega) (by omega)
  subst hA
  obtain ⟨b, rfl⟩ := Kd.R_head hR
  have ht : rd_T29 (ts ++ [t]) (ts.length : Int) = t := by unfold rd_T29; simp
  rw [ht] at k0 k1 k2
  have c2 : w.cell? ⟨g, 2, none⟩ = some (.slice (some ⟨b, 0, none⟩) (ts.length + 1) c) := (blk_cell hb 2).trans rfl
  obtain ⟨m, hm⟩ : ∃ m, ts.length = m := ⟨_, rfl⟩
  rw [hm] at c2 k0 k1 k2 hl
  have l0 : w.cell? ⟨b, m * 3, none⟩ = some (.int .i64 t.f0) := by rw [addr0] at k0; exact k0
  have l1 : w.cell? ⟨b, m * 3 + 1, none⟩ = some (.string t.f1) := by rw [addr0] at k1; exact k1
  have l2 : w.cell? ⟨b, m * 3 + 2, none⟩ = some (.int .i64 t.f2) := by rw [addr0] at k2; exact k2
  have hw : IntKind.i64.wrap (((m + 1 : Nat) : Int) - 1) = (m : Int) := by rw [IntWalk.i64_in _ (by omega)]; omega
  have hw2 : IntKind.i64.wrap (m : Int) = (m : Int) := IntWalk.i64_in _ (by omega)
  have g1 := blk_lt hb
  have g2 : b < w.heap.size := World.block_lt_of_cell? _ _ l0
  clear hb hR h k0 k1 k2 ht hn hm
  obtain ⟨r, hr⟩ : ∃ r, slashT t = r := ⟨_, rfl⟩
  rw [hr]
  unfold slashT at hr
  have hk : (t.f0 = 2 ∧ r = false) ∨ (t.f0 = 3 ∧ r = false) ∨ (t.f0 = 4 ∧ r = false) ∨ (t.f0 = 5 ∧ r = false) ∨ (t.f0 = 9 ∧ r = (t.f1.toList != [108, 101, 110, 103, 116, 104])) ∨ (t.f0 = 8 ∧ r = !(Lib.containsS befT t.f1)) ∨ ((t.f0 ≠ 2 ∧ t.f0 ≠ 3 ∧ t.f0 ≠ 4 ∧ t.f0 ≠ 5 ∧ t.f0 ≠ 9 ∧ t.f0 ≠ 8) ∧ r = true) := by
    by_cases a : t.f0 = 2 ∨ t.f0 = 3 ∨ t.f0 = 4 ∨ t.f0 = 5
    · rw [if_pos a] at hr
      have := hr.symm
      rcases a with a | a | a | a
      · exact .inl ⟨a, this⟩
      · exact .inr (.inl ⟨a, this⟩)
      · exact .inr (.inr (.inl ⟨a, this⟩))
      · exact .inr (.inr (.inr (.inl ⟨a, this⟩)))
    · rw [if_neg a] at hr
      by_cases b : t.f0 = 9
      · rw [if_pos b] at hr; exact .inr (.inr (.inr (.inr (.inl ⟨b, hr.symm⟩))))
      · rw [if_neg b] at hr
        by_cases d : t.f0 = 8
        · rw [if_pos d] at hr; exact .inr (.inr (.inr (.inr (.inr (.inl ⟨d, hr.symm⟩)))))
        · rw [if_neg d] at hr
          refine .inr (.inr (.inr (.inr (.inr (.inr ⟨⟨?_, ?_, ?_, ?_, b, d⟩, hr.symm⟩)))))
          · exact fun h => a (.inl h)
          · exact fun h => a (.inr (.inl h))
          · exact fun h => a (.inr (.inr (.inl h)))
          · exact fun h => a (.inr (.inr (.inr h)))
  clear hr
  obtain ⟨x0, x1, x2⟩ := t
  have fin : ∀ W : World, Below w.heap.size w W → LX w0 W g s p (ts ++ [⟨x0, x1, x2⟩]) := fun W hW => HL.out.below hW
  rcases hk with ⟨hx, hr⟩ | ⟨hx, hr⟩ | ⟨hx, hr⟩ | ⟨hx, hr⟩ | ⟨hx, hr⟩ | ⟨hx, hr⟩ | ⟨⟨n2, n3, n4, n5, n9, n8⟩, hr⟩
  case inr.inr.inr.inr.inr.inr =>
    have q2 : (x0 == 2) = false := by simpa using n2
    have q3 : (x0 == 3) = false := by simpa using n3
    have q4 : (x0 == 4) = false := by simpa using n4
    have q5 : (x0 == 5) = false := by simpa using n5
    have q9 : (x0 == 9) = false := by simpa using n9
    have q8 : (x0 == 8) = false := by simpa using n8
    subst hr
    clear n2 n3 n4 n5 n9 n8
    go_enter Tryd.func32, Tryd.ntmps32
    go_wp2
    go_region
    go_wp2
    go_ret
    exact ⟨rfl, fin _ (by repeat (first | exact Below.refl _ _ | apply below_alloc | apply pw_below_drewN | apply below_drew1))⟩
  all_goals
    dsimp only at hx
    subst hx
    have Hr := Lib.hid hr
    clear hr
    go_enter Tryd.func32, Tryd.ntmps32
    go_wp2
    go_region
    go_wp2_with (go_at_call 43; ((with_reducible refine (has_bef _ _ ?hn x1).mono ?_); (case hn => simp); rintro e w' ⟨rfl, rfl⟩))
    go_ret
    exact ⟨by rw [Hr.out]; rfl, fin _ (by repeat (first | exact Below.refl _ _ | apply below_alloc | apply pw_below_drewN | apply below_drew1))⟩
end Go.Proofs.YtpnkcihiliagcaaDoor.Pr
