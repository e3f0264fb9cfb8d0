/- regex: sets that are four words, and trees of such. -/
import Derived.Test.YthlffghlkggimaaPuRxM
import Derived.Test.YthlffghlkggimaaPuF
import Derived.Test.YthlffghlkggimaaPuRxW
set_option linter.unusedVariables false
namespace Go.Proofs.Ythlffghlkggimaa.Pr
open Go Go.RowKit Go.Proofs.YthlffghlkggimaaW.PrintWords Go.Proofs.YthlffghlkggimaaW.PrintLast Go.Proofs.YthlffghlkggimaaW.PrintMore
def okS (w : RSet) : Prop := okW w.f0 ∧ okW w.f1 ∧ okW w.f2 ∧ okW w.f3
inductive OkT : RNode → Prop
 | mk {op : Int} {w : RSet} {ks : List RNode} : okS w → (∀ k ∈ ks, OkT k) → OkT ⟨op, w, ks⟩
theorem OkT.set {n : RNode} (h : OkT n) : okS n.f1 := by cases h with | mk h _ => exact h
theorem OkT.kids {n : RNode} (h : OkT n) : ∀ k ∈ n.f2, OkT k := by cases h with | mk _ h => exact h
theorem okW_bits (op : BinOp) (a b : Int) (h : op = .or ∨ op = .xor) : okW (bits op .u64 a b) := by
 rcases h with rfl | rfl <;> (unfold okW bits; simp only [IntKind.wrap_u64]; omega)
theorem okW_zero : okW 0 := ⟨by decide, by decide⟩
theorem okS_zero : okS zW := ⟨okW_zero, okW_zero, okW_zero, okW_zero⟩
theorem okS_not (w : RSet) : okS (notW w) := ⟨okW_bits _ _ _ (.inr rfl), okW_bits _ _ _ (.inr rfl), okW_bits _ _ _ (.inr rfl), okW_bits _ _ _ (.inr rfl)⟩
theorem okS_with {w : RSet} (h : okS w) (c : Int) : okS (withW w c) := by
 obtain ⟨h0, h1, h2, h3⟩ := h
 unfold withW orU
 split
 ·exact ⟨okW_bits _ _ _ (.inl rfl), h1, h2, h3⟩
 ·split
  ·exact ⟨h0, okW_bits _ _ _ (.inl rfl), h2, h3⟩
  ·split
   ·exact ⟨h0, h1, okW_bits _ _ _ (.inl rfl), h3⟩
   ·exact ⟨h0, h1, h2, okW_bits _ _ _ (.inl rfl)⟩
theorem okS_addN (n : Nat) : ∀ {w : RSet} (c : Int), okS w → okS (addN w c n) := by
 induction n with
 | zero => intro w c h; exact h
 | succ n ih => intro w c h; exact ih _ (okS_with h c)
theorem okS_sl {t : ByteArray} {fr : Int} {f : Bool} {w w' : RSet} {s s' : St} (h : SL t fr f w s w' s') (hw : okS w) : okS w' := by
 induction h with
 | bad => exact hw
 | close => exact hw
 | more _ _ _ _ _ ih => exact ih (okS_addN _ _ hw)
theorem okT_leaf {t : ByteArray} {s s' : St} {c : Int} {n : RNode} (h : Leaf t s c n s') : OkT n := by
 have none : ∀ k ∈ ([] : List RNode), OkT k := fun k h => by cases h
 cases h with
 | set h =>
  cases h with
  | neg => exact .mk (okS_not _) none
  | pos _ _ h => exact .mk (okS_sl h okS_zero) none
 | dot => exact .mk (okS_not _) none
 | beg => exact .mk okS_zero none
 | fin => exact .mk okS_zero none
 | sign => exact .mk (okS_with okS_zero _) none
 | esc => exact .mk (okS_with okS_zero _) none
 | lit => exact .mk (okS_with okS_zero _) none
def OkCl : Cl → Prop
 | .altL acc => ∀ k ∈ acc, OkT k
 | .cat acc => ∀ k ∈ acc, OkT k
 | .signs n => OkT n
 | _ => True
theorem okT_many {op : Int} {acc : List RNode} (h : ∀ k ∈ acc, OkT k) : OkT ⟨op, zW, acc⟩ := .mk okS_zero h
theorem okT_R {t : ByteArray} {cl : Cl} {s s' : St} {n : RNode} (h : R t cl s n s') (hc : OkCl cl) : OkT n := by
 have catn : ∀ acc : List RNode, (∀ k ∈ acc, OkT k) → OkT (catN acc) := fun acc h => match acc, h with
  | [], _ => okT_many (fun k h => by cases h)
  | [n], h => h n (by simp)
  | a :: b :: r, h => okT_many h
 have altn : ∀ acc : List RNode, (∀ k ∈ acc, OkT k) → OkT (altN acc) := fun acc h => match acc, h with
  | [], _ => okT_many (fun k h => by cases h)
  | [n], h => h n (by simp)
  | a :: b :: r, h => okT_many h
 have snoc : ∀ {acc : List RNode} {m : RNode}, (∀ k ∈ acc, OkT k) → OkT m → ∀ k ∈ acc ++ [m], OkT k := by
  intro acc m h hm k hk
  rcases List.mem_append.1 hk with hk | hk
  ·exact h k hk
  ·rw [List.mem_singleton.1 hk]; exact hm
 induction h with
 | alt _ _ i1 i2 => exact i2 (fun k hk => by rw [List.mem_singleton.1 hk]; exact i1 (fun k h => by cases h))
 | altMore _ _ _ _ i1 i2 => exact i2 (snoc hc (i1 (fun k h => by cases h)))
 | altEnd => exact altn _ hc
 | catEnd => exact catn _ hc
 | catBad => exact catn _ hc
 | catMore _ _ _ _ _ _ _ ia is ic => exact ic (snoc hc (is (ia trivial)))
 | signsMore _ _ _ is => exact is (okT_many (fun k hk => by rw [List.mem_singleton.1 hk]; exact hc))
 | signsEnd => exact hc
 | group _ _ _ ia => exact ia trivial
 | leaf _ _ hl => exact okT_leaf hl
end Go.Proofs.Ythlffghlkggimaa.Pr
