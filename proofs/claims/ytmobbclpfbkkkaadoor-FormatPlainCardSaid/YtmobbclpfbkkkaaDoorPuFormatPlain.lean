/- A text without percent signs is itself: the pure statement. -/
import Derived.Test.YtmobbclpfbkkkaaDoorPuFmtGood
import Derived.Test.YtmobbclpfbkkkaaDoorPr20
namespace Go.Proofs.YtmobbclpfbkkkaaDoor.Pr
open Go Go.RowKit Go.Proofs.YtmobbclpfbkkkaaDoorW.PrintWords Go.Proofs.YtmobbclpfbkkkaaDoorW.PrintLast Go.Proofs.YtmobbclpfbkkkaaDoorW.PrintMore

theorem plain_loop (l : List UInt8) (hl : l.length ≤ 200) (x1 : List S32) (r : List UInt8) : ∀ i : Nat, l.drop i = r → i ≤ l.length → (∀ c ∈ l.take i, c.toNat ≠ 37) →
    Ev (fun k => scribelaw07_FormatPlain.l0 k (B l) x1 (i : Int)) true := by
  induction r with
  | nil =>
    intro i h hi hno
    have hle := drop_nil h
    rw [List.take_of_length_le hle] at hno
    obtain ⟨g, hg, _, hok⟩ := good7_ev x1 5 (by omega)
    refine Ev.succ ?_
    simp only [scribelaw07_FormatPlain.l0]
    refine Ev.neg (by rw [B_size]; omega) (Ev.bind' hg (Ev.bindc (print_some l g (by omega) hok) (Ev.bind' awake7_ev (Ev.pos rfl ?_))))
    rw [printS_plain l _ [] hno (by simp; omega), List.nil_append]
    exact Ev.pos rfl (Ev.const (by simp))
  | cons c r ih =>
    intro i h hi hno
    obtain ⟨hb, hil, hr'⟩ := bt_drop h
    have hw1 : wrap64 ((i : Int) + 1) = ((i + 1 : Nat) : Int) := by rw [w64 (by omega) (by omega)]; omega
    refine Ev.succ ?_
    simp only [scribelaw07_FormatPlain.l0, hb, hw1]
    refine Ev.pos (by rw [B_size]; omega) (Ev.pos (by omega) ?_)
    by_cases hc : c.toNat = 37
    · exact Ev.pos (by omega) (Ev.bind' (f := fun _ t => some t) awake7_ev (Ev.now _))
    · refine Ev.neg (by omega) (ih (i + 1) hr' (by omega) ?_)
      intro z hz
      rw [List.take_add_one, List.mem_append] at hz
      rcases hz with hz | hz
      · exact hno z hz
      · have : l[i]? = some c := by
          have := congrArg List.head? h
          rw [List.head?_drop] at this
          exact this
        rw [this] at hz
        have : z = c := by simpa using hz
        rw [this]; exact hc
theorem FormatPlain_ev (a0 : ByteArray) (l1 : List S32) (_w0 : a0.size ≤ 140737488351232) : Ev (fun k => scribelaw07_FormatPlain.f k a0 l1) true := by
  unfold scribelaw07_FormatPlain.f
  obtain ⟨l, hl, hc⟩ := cut_some a0 200 (by omega)
  refine Ev.bindc hc ?_
  exact plain_loop l hl l1 l 0 rfl (Nat.zero_le _) (fun c hc => by simp at hc)

end Go.Proofs.YtmobbclpfbkkkaaDoor.Pr
