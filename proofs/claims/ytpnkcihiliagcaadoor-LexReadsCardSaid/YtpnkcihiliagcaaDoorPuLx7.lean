/- lex: the state while a text in quotes is read; peek once more; the escapes. -/
import Derived.Test.YtpnkcihiliagcaaDoorPuLx6
import Derived.Test.YtpnkcihiliagcaaDoorTbLb
import Derived.Test.YtpnkcihiliagcaaDoorPr4
namespace Go.Proofs.YtpnkcihiliagcaaDoor.Pr
open Go Go.RowKit Go.Proofs.YtpnkcihiliagcaaDoorW.PrintWords Go.Proofs.YtpnkcihiliagcaaDoorW.PrintLast Go.Proofs.YtpnkcihiliagcaaDoorW.PrintMore
set_option linter.unusedVariables false

/-- a builder stays one where one block alone, of another type, has turned -/
theorem builder_move {B b : Nat} {bs : List Value} {W W2 : World} {g : Nat} {cs : Array Value} {t : TypeId} (h : Lib.IsBuilderF 52 5 B b bs W) (hg : W.heap[g]? = some (.cells cs t (0, 0))) (h1 : t ≠ 52) (h2 : t ≠ 5)
    (hk : ∀ k, k < W.heap.size → k ≠ g → W2.heap[k]? = W.heap[k]?) : Lib.IsBuilderF 52 5 B b bs W2 := by
  have at_ : ∀ p, Lib.BuilderAtF 52 5 B b p bs W → Lib.BuilderAtF 52 5 B b p bs W2 := by
    rintro p ⟨hB, v, hb, hown, hne⟩
    have lt : ∀ {k : Nat} {o : Obj}, W.heap[k]? = some o → k < W.heap.size := fun h => (Array.getElem?_eq_some_iff.1 h).1
    have hbg : b ≠ g := by
      rintro rfl
      rw [hg] at hb
      injection hb with hb
      injection hb with _ e _
      exact h1 e
    refine ⟨hB, v, (hk b (lt hb) hbg).trans hb, ⟨hown.1, ?_⟩, hne⟩
    rcases hown.2 with hn | ⟨q, cap, cur, fz, hv, hbase, hq, rest⟩
    · exact .inl hn
    · refine .inr ⟨q, cap, cur, fz, hv, hbase, (hk q (lt hq) ?_).trans hq, rest⟩
      rintro rfl
      rw [hg] at hq
      injection hq with hq
      injection hq with _ e _
      exact h2 e
  exact h.elim (fun x => .inl (at_ _ x)) (fun x => .inr (at_ _ x))
theorem byteCells_snoc (l : List UInt8) (c : UInt8) : Lib.byteCells l ++ [.int .u8 (c.toNat : Int)] = Lib.byteCells (l ++ [c]) := by
  simp [Lib.byteCells]
theorem below_set2 {B : Nat} {a b : World} {g : Nat} {cs : Array Value} {t : TypeId} (h : Below B a b) (ha : a.heap[g]? = some (.cells cs t (0, 0))) (hg : g < B) (i : Nat) (u : Value) : Below B (a.setCell ⟨g, i, none⟩ u) (b.setCell ⟨g, i, none⟩ u) := by
  refine ⟨h.os, h.tape, h.output, by simpa [World.setCell] using h.size, fun k hk => ?_⟩
  by_cases hkg : k = g
  · subst hkg
    rw [blk_set ha i u, blk_set ((h.block k hg).trans ha) i u]
  · rw [Below.heap_setCell _ _ _ _ hkg, Below.heap_setCell _ _ _ _ hkg]
    exact h.block k hk

/-- while a text in quotes is read: as in w but for the place; the builder lies first above w -/
structure QX (w W : World) (g : Nat) (s : ByteArray) (q : Int) (out : List UInt8) : Prop where
  lx : ∃ w1 v, w1.heap.size = w.heap.size ∧ g < w.heap.size ∧ w1.heap[g]? = some (.cells #[.string s, .int .i64 q, v] 43 (0, 0)) ∧ Below w.heap.size w1 W ∧ ∀ w0 p ts, LX w0 w g s p ts → LX w0 w1 g s q ts
  bu : Lib.IsBuilderF 52 5 w.heap.size w.heap.size (Lib.byteCells out) W
section
variable {w0 w W W1 : World} {g : Nat} {s : ByteArray} {p q : Int} {ts : List Tok} {out : List UInt8}
theorem QX.blk (h : QX w W g s q out) : ∃ v, W.heap[g]? = some (.cells #[.string s, .int .i64 q, v] 43 (0, 0)) := by
  obtain ⟨⟨w1, v, h1, h2, h3, h4, _⟩, _⟩ := h
  exact ⟨v, (h4.block g (by omega)).trans h3⟩
theorem QX.size (h : QX w W g s q out) : w.heap.size ≤ W.heap.size := by
  obtain ⟨⟨w1, v, h1, h2, h3, h4, _⟩, _⟩ := h
  have := h4.size
  omega
theorem QX.asL (h : QX w W g s q out) (hl : LX w0 w g s p ts) : LX w0 W g s q ts := by
  obtain ⟨⟨w1, v, h1, h2, h3, h4, h5⟩, _⟩ := h
  exact (h5 _ _ _ hl).below (by rw [h1]; exact h4)
theorem QX.to_below (h : QX w W g s q out) (hb : Below w.heap.size W W1) (hl : LX w0 w g s p ts) : LX w0 W1 g s q ts := by
  obtain ⟨⟨w1, v, h1, h2, h3, h4, h5⟩, _⟩ := h
  exact (h5 _ _ _ hl).below (by rw [h1]; exact h4.trans hb)
theorem QX.below (h : QX w W g s q out) (hb : Below W.heap.size W W1) : QX w W1 g s q out := by
  obtain ⟨v0, hg⟩ := h.blk
  have hs := h.size
  obtain ⟨⟨w1, v, h1, h2, h3, h4, h5⟩, hu⟩ := h
  exact ⟨⟨w1, v, h1, h2, h3, h4.trans (hb.mono hs), h5⟩, builder_move hu hg (by decide) (by decide) (fun k hk _ => hb.block k hk)⟩
theorem QX.drewN (h : QX w W g s q out) (n : Nat) : QX w (W.drewN n) g s q out := h.below (pw_below_drewN (Below.refl _ _) n)
theorem QX.drew (h : QX w W g s q out) : QX w W.drew g s q out := h.below (below_drew1 (Below.refl _ _))
theorem QX.goto (h : QX w W g s q out) (r : Int) : QX w (W.setCell ⟨g, 1, none⟩ (.int .i64 r)) g s r out := by
  obtain ⟨v0, hg⟩ := h.blk
  obtain ⟨⟨w1, v, h1, h2, h3, h4, h5⟩, hu⟩ := h
  refine ⟨⟨w1.setCell ⟨g, 1, none⟩ (.int .i64 r), v, by simpa [World.setCell] using h1, h2, ?_, below_set2 h4 h3 (by omega) 1 _, fun w0 p ts hl => (h5 w0 p ts hl).goto r⟩, builder_move hu hg (by decide) (by decide) (fun k _ hk => Below.heap_setCell _ _ _ _ hk)⟩
  simpa using blk_set h3 1 (.int .i64 r)
theorem QX.wrote {out2 : List UInt8} {bs : List Value} (h : QX w W g s q out) (hb : Below w.heap.size W W1) (hu : Lib.BuilderAtF 52 5 w.heap.size w.heap.size (.pointer (some ⟨w.heap.size, 0, none⟩)) bs W1) (he : bs = Lib.byteCells out2) : QX w W1 g s q out2 := by
  subst he
  obtain ⟨⟨w1, v, h1, h2, h3, h4, h5⟩, _⟩ := h
  exact ⟨⟨w1, v, h1, h2, h3, h4.trans hb, h5⟩, .inr hu⟩
theorem QX.new (h : LX w0 w g s p ts) : QX w (w.alloc (.cells #[.pointer none, .slice none 0 0] 52)) g s p [] := by
  have hlt := h.lt
  obtain ⟨v, hb, _⟩ := h.ex
  obtain ⟨hs, _, _⟩ := h
  refine ⟨⟨w, v, rfl, hlt, hb, (Below.refl _ _).alloc (Nat.le_refl _) _, fun w0' p' ts' hl => ?_⟩, Lib.IsBuilderF.of (.inl ⟨by omega, _, by have := heap_alloc_new w (.cells #[.pointer none, .slice none 0 0] 52); simpa using this, World.ownsRow_nil _ _ _ _, by simp [Value.ownBlock]⟩)⟩
  obtain ⟨⟨v', h1, h2⟩, h3, h4⟩ := hl
  have e := hb.symm.trans h1
  simp only [Option.some.injEq, Obj.cells.injEq] at e
  have e1 := e.1
  simp at e1
  obtain ⟨rfl, rfl⟩ := e1
  exact ⟨⟨v, hb, h2⟩, h3, h4⟩
end
set_option maxHeartbeats 2000000 in
set_option maxRecDepth 100000 in
theorem lex_peek2 (g : Nat) (s : ByteArray) (p n : Int) (w : World) (c0 : w.cell? ⟨g, 0, none⟩ = some (.string s)) (c1 : w.cell? ⟨g, 1, none⟩ = some (.int .i64 p)) (h0 : 0 ≤ p) (h1 : 0 ≤ n) (h2 : p + n ≤ 1000000000) :
    Calls Tryd.prog 25 #[.pointer (some ⟨g, 0, none⟩), .int .i64 n] w fun e w' => e = .returned (.int .u8 (bt s (p + n))) ∧ Below w.heap.size w w' := by
  have hu := Tryd.underlying43
  have hw : IntKind.i64.wrap (p + n) = p + n := IntWalk.i64_in (p + n) (by omega)
  have hpn : 0 ≤ p + n := by omega
  by_cases hlt : p + n < (s.size : Int)
  · have hb := bt_at s (p + n) (by omega)
    have hd : decide (p + n ≥ (s.size : Int)) = false := by simp; omega
    go_enter Tryd.func25, Tryd.ntmps25
    go_wp2
    go_quiet (fail)
    go_wp2
    go_quiet (fail)
    go_wp2
    go_ret
    exact ⟨rfl, by repeat (first | exact Below.refl _ _ | apply pw_below_drewN | apply below_drew1)⟩
  · have hd : decide (p + n ≥ (s.size : Int)) = true := by simp; omega
    have hz : bt s (p + n) = 0 := by unfold bt; rw [dif_neg (by omega)]
    rw [hz]
    go_enter Tryd.func25, Tryd.ntmps25
    go_wp2
    go_quiet (fail)
    go_wp2
    go_ret
    exact ⟨rfl, by repeat (first | exact Below.refl _ _ | apply pw_below_drewN | apply below_drew1)⟩
def howS (c : Int) : ByteArray × Bool := (lex_inString.f c).getD default
def howR (c : Int) : ByteArray × Bool := (lex_inRegex.f c).getD default
theorem howS_some (c : Int) : lex_inString.f c = some ((howS c).1, (howS c).2) := by
  unfold howS lex_inString.f
  repeat' split
  all_goals rfl
theorem howR_some (c : Int) : lex_inRegex.f c = some ((howR c).1, (howR c).2) := by
  unfold howR lex_inRegex.f
  repeat' split
  all_goals rfl
theorem howS_size (c : Int) : (howS c).1.size ≤ 2 := by
  unfold howS lex_inString.f
  repeat' split
  all_goals (simp [strOfNums, ByteArray.size])
theorem howR_size (c : Int) : (howR c).1.size ≤ 2 := by
  unfold howR lex_inRegex.f
  repeat' split
  all_goals (simp [strOfNums, ByteArray.size])
/-- a text in quotes from q on, told so far: out; fuel first. Whether it ends, where the reader stands then, the text -/
def quoteL (how : Int → ByteArray × Bool) (s : ByteArray) (fin start : Int) : Nat → Int → List UInt8 → Bool × Int × List UInt8
  | 0, _, out => (false, start, out)
  | k + 1, q, out =>
    if (s.size : Int) ≤ q ∨ bt s q = 10 then (false, start, out)
    else if bt s q = fin then (true, q + 1, out)
    else if bt s q = 92 then
      if (how (bt s (q + 1))).2 = false ∨ (s.size : Int) ≤ q + 1 then (false, q, out)
      else quoteL how s fin start k (q + 2) (out ++ (how (bt s (q + 1))).1.data.toList)
    else quoteL how s fin start k (q + 1) (out ++ [(bt s q).toNat.toUInt8])
def errQ (b : Bool) : Int := if b then 0 else 9
def tsQ (R : Bool × Int × List UInt8) (kind p : Int) (ts : List Tok) : List Tok := if R.1 then ts ++ [⟨kind, ⟨R.2.2.toArray⟩, p⟩] else ts
theorem bt_byte (s : ByteArray) (q : Int) : (((bt s q).toNat.toUInt8).toNat : Int) = bt s q := by
  unfold bt
  split
  · simp
  · rfl
end Go.Proofs.YtpnkcihiliagcaaDoor.Pr
