/- The machine's side, written by a patched print (wip/tools): each theorem says that a call of the Go function comes to what the Lean function beside it computes, where the tables are laid (TB). -/
import Derived.Test.YtdjnjhmmpjbbaaaPr0
import Derived.Test.YtdjnjhmmpjbbaaaPr6
import Derived.Test.YtdjnjhmmpjbbaaaPr7
import Derived.Test.YtdjnjhmmpjbbaaaPr8
import Derived.Test.YtdjnjhmmpjbbaaaPr9
namespace Go.Proofs.Ytdjnjhmmpjbbaaa.Pr
open Go.RowKit Go.Proofs.YtdjnjhmmpjbbaaaW.PrintWords Go.Proofs.YtdjnjhmmpjbbaaaW.PrintLast Go.Proofs.YtdjnjhmmpjbbaaaW.PrintMore
attribute [local go_sem] fld39_0 fld39_1 fld39_2 fld50_0 fld50_1 fld50_2 fld50_3 fld50_4 fld54_0 fld54_1 fld54_2 fld54_3 fld54_4 fld9000_0 fld9000_1 fld9000_2 fld9000_3 fld9000_4 binOp_string_gtr2 binOp_string_leq2 binOp_string_geq2 max2_int min2_int max_two min_two max_three min_three max_four min_four   -- for this text's walks alone
set_option linter.unusedVariables false
set_option linter.unusedSimpArgs false

theorem regex_reader_alt.all_s (k : Nat) : regex_reader_alt.Spec k ∧ regex_reader_cat.Spec k ∧ regex_reader_atom.Spec k := by
 induction k using Nat.strongRecOn with
 | _ k ih => exact ⟨regex_reader_alt.callsS k (fun m h => (ih m h).1) (fun m h => (ih m h).2.1) (fun m h => (ih m h).2.2), regex_reader_cat.callsS k (fun m h => (ih m h).2.1) (fun m h => (ih m h).1) (fun m h => (ih m h).2.2), regex_reader_atom.callsS k (fun m h => (ih m h).2.2) (fun m h => (ih m h).1) (fun m h => (ih m h).2.1)⟩
theorem regex_reader_alt.calls (k : Nat) : regex_reader_alt.Spec k := (regex_reader_alt.all_s k).1
theorem regex_reader_cat.calls (k : Nat) : regex_reader_cat.Spec k := (regex_reader_alt.all_s k).2.1
theorem regex_reader_atom.calls (k : Nat) : regex_reader_atom.Spec k := (regex_reader_alt.all_s k).2.2

end Go.Proofs.Ytdjnjhmmpjbbaaa.Pr
