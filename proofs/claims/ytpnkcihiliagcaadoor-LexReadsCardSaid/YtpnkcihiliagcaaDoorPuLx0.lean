/- lex: the lexer's state in memory; put. -/
import Derived.Test.YtpnkcihiliagcaaDoorTbL
import Derived.Test.YtpnkcihiliagcaaDoorWAll
import Derived.RegionTactic
import Derived.WalkMore
import Derived.WalkSpells
import Derived.OwnWalk
import Derived.Lib.Hide
import Derived.LoopTactic
import Derived.Deep.QuietTactic
import Derived.BigQuiet
import Derived.Test.YtpnkcihiliagcaaDoorPr2
namespace Go.Proofs.YtpnkcihiliagcaaDoor.Pr
open Go Go.RowKit Go.Proofs.YtpnkcihiliagcaaDoorW.PrintWords Go.Proofs.YtpnkcihiliagcaaDoorW.PrintLast Go.Proofs.YtpnkcihiliagcaaDoorW.PrintMore
set_option linter.unusedVariables false

abbrev Tok := S29
/-- the lexer at block g: its text, its place, its tokens (they lie in rows above it); below, all is as it was in w0 -/
structure LX (w0 W : World) (g : Nat) (s : ByteArray) (p : Int) (ts : List Tok) : Prop where
  ex : ∃ v, W.heap[g]? = some (.cells #[.string s, .int .i64 p, v] 43 (0, 0)) ∧ Kd.R k29 29 W (g + 1) (fun _ => True) v ts
  ge : w0.heap.size ≤ g
  bel : Below w0.heap.size w0 W
section
variable {w0 W W1 : World} {g : Nat} {s : ByteArray} {p : Int} {ts : List Tok}
theorem LX.lt (h : LX w0 W g s p ts) : g < W.heap.size := by
  obtain ⟨v, hb, _⟩ := h.ex
  exact blk_lt hb
theorem LX.below (h : LX w0 W g s p ts) (hb : Below W.heap.size W W1) : LX w0 W1 g s p ts := by
  have hlt := h.lt
  obtain ⟨⟨v, h1, h2⟩, h3, h4⟩ := h
  exact ⟨⟨v, (hb.block g hlt).trans h1, Kd.R_below h2 hb⟩, h3, h4.trans (hb.mono (by omega))⟩
theorem LX.alloc (h : LX w0 W g s p ts) (o : Obj) : LX w0 (W.alloc o) g s p ts := h.below (below_alloc (Below.refl _ _) o)
theorem LX.drewN (h : LX w0 W g s p ts) (n : Nat) : LX w0 (W.drewN n) g s p ts := by
  obtain ⟨⟨v, h1, h2⟩, h3, h4⟩ := h
  exact ⟨⟨v, h1, Kd.R_drewN h2 n⟩, h3, pw_below_drewN h4 n⟩
theorem LX.drew (h : LX w0 W g s p ts) : LX w0 W.drew g s p ts := by
  obtain ⟨⟨v, h1, h2⟩, h3, h4⟩ := h
  exact ⟨⟨v, h1, Kd.R_drew h2⟩, h3, below_drew1 h4⟩
/-- its place turns -/
theorem LX.goto (h : LX w0 W g s p ts) (q : Int) : LX w0 (W.setCell ⟨g, 1, none⟩ (.int .i64 q)) g s q ts := by
  obtain ⟨⟨v, h1, h2⟩, h3, h4⟩ := h
  refine ⟨⟨v, ?_, Kd.R_set h2 h1 (by decide) 1 _⟩, h3, h4.setCell (p := ⟨g, 1, none⟩) h3 _⟩
  simpa using blk_set h1 1 (.int .i64 q)
end
set_option maxHeartbeats 2000000 in
set_option maxRecDepth 100000 in
theorem lex_put (g : Nat) (s : ByteArray) (p : Int) (ts : List Tok) (x : Tok) (w0 w : World) (h : LX w0 w g s p ts) (hl : ts.length ≤ 1000000) :
    Calls Tryd.prog 18 #[.pointer (some ⟨g, 0, none⟩), .int .i64 x.f0, .string x.f1, .int .i64 x.f2] w fun e w' => e = .returned (.tuple #[]) ∧ LX w0 w' g s p (ts ++ [x]) := by
  have hLt := h.lt
  obtain ⟨⟨v, hb, hR⟩, hge, hB⟩ := h
  have hu := Tryd.underlying43
  have hut := Tryd.underlying29
  have c2 : w.cell? ⟨g, 2, none⟩ = some v := (blk_cell hb 2).trans rfl
  obtain ⟨A, c, rfl⟩ := Kd.R_slice hR
  have HR := Lib.hid hR
  have HB := Lib.hid hB
  clear hR hB
  go_enter Tryd.func18, Tryd.ntmps18
  go_wp2_with (at_builtin; refine Kd.R_append k29 (w0 := w) (g + 1) rfl (.tmp 12) (.tmp 17) 23 29 (.agg #[.int .i64 0, .string ⟨#[]⟩, .int .i64 0]) 32 rfl Tryd.underlying23 info29 rfl (by decide) (by decide) (.slice A ts.length c) ts x [.int .i64 x.f0, .string x.f1, .int .i64 x.f2] (fun _ => True) (fun k => False) rfl rfl (k29_mkM _ _ _ x) (fun k hk => hk.elim) (fun _ _ => trivial) HR.out (Below.refl _ _) (by omega) (by omega) ?_)
  intro v1 w1 hR1 hB1 hg1 _
  obtain ⟨A1, c1, rfl⟩ := Kd.R_slice hR1
  have hb1 : w1.heap[g]? = some (.cells #[.string s, .int .i64 p, .slice A ts.length c] 43 (0, 0)) := (hB1.block g (by omega)).trans hb
  have d2 : w1.cell? ⟨g, 2, none⟩ = some (.slice A ts.length c) := (blk_cell hb1 2).trans rfl
  have f2 := blk_frozen hb1 2
  have HR1 := Lib.hid hR1
  have HB1 := Lib.hid hB1
  have Hb1 := Lib.hid hb1
  clear hR1 hB1 hb1 hb hg1
  go_wp2
  first | go_end0 | ((try simp only [Exit.inBlock, Exit.then]); refine bodyPost_ret (results_none rfl _ _ _) rfl ?_)
  refine ⟨rfl, ⟨⟨_, ?_, Kd.R_set HR1.out Hb1.out (by decide) 2 _⟩, hge, ?_⟩⟩
  · simpa using blk_set Hb1.out 2 (.slice A1 (ts ++ [x]).length c1)
  · exact ((HB.out.trans (HB1.out.mono (by omega))).setCell (p := ⟨g, 2, none⟩) hge _)
end Go.Proofs.YtpnkcihiliagcaaDoor.Pr
