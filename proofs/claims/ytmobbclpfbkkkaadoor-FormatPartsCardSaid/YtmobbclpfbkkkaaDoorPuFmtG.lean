/- format.Print: what it computes, and that it does. -/
import Derived.Test.YtmobbclpfbkkkaaDoorPuFmtW
namespace Go.Proofs.YtmobbclpfbkkkaaDoor.Pr
open Go Go.RowKit Go.Proofs.YtmobbclpfbkkkaaDoorW.PrintWords Go.Proofs.YtmobbclpfbkkkaaDoorW.PrintLast Go.Proofs.YtmobbclpfbkkkaaDoorW.PrintMore

instance okDec (x : Cl) : Decidable (okCl x) := by unfold okCl fitI; infer_instance
def okAll (l1 : List S32) : Bool := l1.all fun x => decide (okCl (cl x))
def format_Print.f (a0 : ByteArray) (l1 : List S32) : Option (ByteArray × Int) :=
  if a0.size ≤ 100000 then (if okAll l1 = true then some (B (printS a0.data.toList (l1.map cl) []).1, (printS a0.data.toList (l1.map cl) []).2) else none) else none
theorem format_Print.calls (a0 : ByteArray) (A1 : Option Addr) (c1 : Nat) (l1 : List (S32)) (r1 : ByteArray) (r2 : Int) (w : World) (hr1 : Kd.C k32 w A1 l1.length l1) (hc1 : l1.length ≤ c1) (hT : TB w) (h : format_Print.f a0 l1 = some (r1, r2)) :
    Calls Tryd.prog 10 #[.string a0, .slice A1 l1.length c1] w fun e w' => e = .returned (.tuple #[.string r1, .int .i64 r2]) ∧ Below w.heap.size w w' := by
  unfold format_Print.f at h
  split at h <;> try cases h
  split at h <;> cases h
  rename_i h1 h2
  have hok : ∀ x ∈ l1, okCl (cl x) := fun x hx => of_decide_eq_true (List.all_eq_true.1 h2 x hx)
  have := format_Print_walk a0.data.toList (by rw [Array.length_toList]; exact h1) A1 c1 l1 w hr1 hc1 hT hok
  rw [B_eta] at this
  exact this

end Go.Proofs.YtmobbclpfbkkkaaDoor.Pr
