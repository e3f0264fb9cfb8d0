/- The machine's side, written by a patched print (wip/tools): each theorem says that a call of the Go function comes to what the Lean function beside it computes, where the tables are laid (TB). -/
import Derived.Test.YthlffghlkggimaaPr0
import Derived.Test.YthlffghlkggimaaPr5
import Derived.Test.YthlffghlkggimaaPr6
import Derived.Test.YthlffghlkggimaaPr7
import Derived.Test.YthlffghlkggimaaPr8
namespace Go.Proofs.Ythlffghlkggimaa.Pr
open Go.RowKit Go.Proofs.YthlffghlkggimaaW.PrintWords Go.Proofs.YthlffghlkggimaaW.PrintLast Go.Proofs.YthlffghlkggimaaW.PrintMore
attribute [local go_sem] fld30_0 fld30_1 fld30_2 fld58_0 fld58_1 fld58_2 fld58_3 fld58_4 fld66_0 fld66_1 fld76_0 fld76_1 fld76_2 fld76_3 fld76_4 fld84_0 fld84_1 fld84_2 fld84_3 fld93_0 fld93_1 fld93_2 fld9000_0 fld9000_1 fld9000_2 fld9000_3 fld9000_4 binOp_string_gtr2 binOp_string_leq2 binOp_string_geq2 max2_int min2_int max_two min_two max_three min_three max_four min_four   -- for this text's walks alone
set_option linter.unusedVariables false
set_option linter.unusedSimpArgs false

theorem regex_reader_alt.all_s (k : Nat) : regex_reader_alt.Spec k ∧ regex_reader_cat.Spec k ∧ regex_reader_atom.Spec k := by
 induction k using Nat.strongRecOn with
 | _ k ih => exact ⟨regex_reader_alt.callsS k (fun m h => (ih m h).1) (fun m h => (ih m h).2.1) (fun m h => (ih m h).2.2), regex_reader_cat.callsS k (fun m h => (ih m h).2.1) (fun m h => (ih m h).1) (fun m h => (ih m h).2.2), regex_reader_atom.callsS k (fun m h => (ih m h).2.2) (fun m h => (ih m h).1) (fun m h => (ih m h).2.1)⟩
theorem regex_reader_alt.calls (k : Nat) : regex_reader_alt.Spec k := (regex_reader_alt.all_s k).1
theorem regex_reader_cat.calls (k : Nat) : regex_reader_cat.Spec k := (regex_reader_alt.all_s k).2.1
theorem regex_reader_atom.calls (k : Nat) : regex_reader_atom.Spec k := (regex_reader_alt.all_s k).2.2

end Go.Proofs.Ythlffghlkggimaa.Pr
