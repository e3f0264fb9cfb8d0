/- The machine's side, written by a patched print (wip/tools): each theorem says that a call of the Go function comes to what the Lean function beside it computes, where the tables are laid (TB). -/
import Derived.Test.YthlffghlkggimaaPuRxS
import Derived.Test.YthlffghlkggimaaPr0
import Derived.Test.YthlffghlkggimaaPr1
import Derived.Test.YthlffghlkggimaaPr2
import Derived.Test.YthlffghlkggimaaPr4
namespace Go.Proofs.Ythlffghlkggimaa.Pr
open Go.RowKit Go.Proofs.YthlffghlkggimaaW.PrintWords Go.Proofs.YthlffghlkggimaaW.PrintLast Go.Proofs.YthlffghlkggimaaW.PrintMore
attribute [local go_sem] fld30_0 fld30_1 fld30_2 fld58_0 fld58_1 fld58_2 fld58_3 fld58_4 fld66_0 fld66_1 fld76_0 fld76_1 fld76_2 fld76_3 fld76_4 fld84_0 fld84_1 fld84_2 fld84_3 fld93_0 fld93_1 fld93_2 fld9000_0 fld9000_1 fld9000_2 fld9000_3 fld9000_4 binOp_string_gtr2 binOp_string_leq2 binOp_string_geq2 max2_int min2_int max_two min_two max_three min_three max_four min_four   -- for this text's walks alone
set_option linter.unusedVariables false
set_option linter.unusedSimpArgs false

/-! ### regex_reader_alt: function 29 -/
/-! ### regex_reader_cat: function 35 -/
/-! ### regex_reader_atom: function 42 -/
mutual
def regex_reader_alt.l0 : Nat → List (S52) → Int → Bool → ByteArray → Int → Int → Int → Int → Option (Int × Int × Int × Int × Int × (List (S52)) × ByteArray × Int × Int × Int × Int)
 | 0, _, _, _, _, _, _, _, _ => none
 | k + 1, x3, x4, x5, x1000, x1001, x1002, x1003, x1004 => if x5 = true then (regex_reader_alt.j1 k x3 (x4 == 124) x1000 x1001 x1002 x1003 x1004) else (regex_reader_alt.j1 k x3 false x1000 x1001 x1002 x1003 x1004)
def regex_reader_alt.j1 : Nat → List (S52) → Bool → ByteArray → Int → Int → Int → Int → Option (Int × Int × Int × Int × Int × (List (S52)) × ByteArray × Int × Int × Int × Int)
 | 0, _, _, _, _, _, _, _ => none
 | k + 1, x3, x18, x1000, x1001, x1002, x1003, x1004 => if x18 = true then ((regex_reader_cat.f k x1000 (wrap64 (x1001 + 1)) x1002 x1003 x1004).bind fun bt217 => (if x3.length < 2199023255552 then ((regex_reader_next.f bt217.2.2.2.2.2.2.1 bt217.2.2.2.2.2.2.2.1 bt217.2.2.2.2.2.2.2.2.1 bt217.2.2.2.2.2.2.2.2.2.1 bt217.2.2.2.2.2.2.2.2.2.2).bind fun bt233 => (regex_reader_alt.l0 k (x3 ++ [(⟨bt217.1, (⟨bt217.2.1, bt217.2.2.1, bt217.2.2.2.1, bt217.2.2.2.2.1⟩ : S49), bt217.2.2.2.2.2.1⟩ : S52)]) bt233.1 bt233.2.1 bt233.2.2.1 bt233.2.2.2.1 bt233.2.2.2.2.1 bt233.2.2.2.2.2.1 bt233.2.2.2.2.2.2)) else (none))) else (if (x3.length : Int) = 1 then (if 0 < (x3.length : Int) then (some ((rd_T52 x3 0).f0, (rd_T52 x3 0).f1.f0, (rd_T52 x3 0).f1.f1, (rd_T52 x3 0).f1.f2, (rd_T52 x3 0).f1.f3, (rd_T52 x3 0).f2, x1000, x1001, x1002, x1003, x1004)) else (none)) else (some (3, 0, 0, 0, 0, x3, x1000, x1001, x1002, x1003, x1004)))
def regex_reader_alt.f : Nat → ByteArray → Int → Int → Int → Int → Option (Int × Int × Int × Int × Int × (List (S52)) × ByteArray × Int × Int × Int × Int)
 | 0, _, _, _, _, _ => none
 | k + 1, s0_0, s0_1, s0_2, s0_3, s0_4 => (regex_reader_cat.f k s0_0 s0_1 s0_2 s0_3 s0_4).bind fun bt194 => ((regex_reader_next.f bt194.2.2.2.2.2.2.1 bt194.2.2.2.2.2.2.2.1 bt194.2.2.2.2.2.2.2.2.1 bt194.2.2.2.2.2.2.2.2.2.1 bt194.2.2.2.2.2.2.2.2.2.2).bind fun bt210 => (regex_reader_alt.l0 k (([(⟨bt194.1, (⟨bt194.2.1, bt194.2.2.1, bt194.2.2.2.1, bt194.2.2.2.2.1⟩ : S49), bt194.2.2.2.2.2.1⟩ : S52)] : List (S52))) bt210.1 bt210.2.1 bt210.2.2.1 bt210.2.2.2.1 bt210.2.2.2.2.1 bt210.2.2.2.2.2.1 bt210.2.2.2.2.2.2))
def regex_reader_cat.j3 : Nat → List (S52) → ByteArray → Int → Int → Int → Int → Option (Int × Int × Int × Int × Int × (List (S52)) × ByteArray × Int × Int × Int × Int)
 | 0, _, _, _, _, _, _ => none
 | k + 1, x3, x1000, x1001, x1002, x1003, x1004 => if (x3.length : Int) = 0 then (some (0, 0, 0, 0, 0, ([] : List (S52)), x1000, x1001, x1002, x1003, x1004)) else (if (x3.length : Int) = 1 then (if 0 < (x3.length : Int) then (some ((rd_T52 x3 0).f0, (rd_T52 x3 0).f1.f0, (rd_T52 x3 0).f1.f1, (rd_T52 x3 0).f1.f2, (rd_T52 x3 0).f1.f3, (rd_T52 x3 0).f2, x1000, x1001, x1002, x1003, x1004)) else (none)) else (some (2, 0, 0, 0, 0, x3, x1000, x1001, x1002, x1003, x1004)))
def regex_reader_cat.l0 : Nat → List (S52) → ByteArray → Int → Int → Int → Int → Option (Int × Int × Int × Int × Int × (List (S52)) × ByteArray × Int × Int × Int × Int)
 | 0, _, _, _, _, _, _ => none
 | k + 1, x3, x1000, x1001, x1002, x1003, x1004 => (regex_reader_next.f x1000 x1001 x1002 x1003 x1004).bind fun bt242 => (if bt242.2.1 = true then (if bt242.1 = 124 then (regex_reader_cat.j1 k x3 bt242.1 (bt242.1 == 124) bt242.2.2.1 bt242.2.2.2.1 bt242.2.2.2.2.1 bt242.2.2.2.2.2.1 bt242.2.2.2.2.2.2) else (if bt242.1 = 41 then (regex_reader_cat.j1 k x3 bt242.1 (decide (bt242.2.2.2.2.1 > 0)) bt242.2.2.1 bt242.2.2.2.1 bt242.2.2.2.2.1 bt242.2.2.2.2.2.1 bt242.2.2.2.2.2.2) else (regex_reader_cat.j1 k x3 bt242.1 false bt242.2.2.1 bt242.2.2.2.1 bt242.2.2.2.2.1 bt242.2.2.2.2.2.1 bt242.2.2.2.2.2.2))) else (regex_reader_cat.j1 k x3 bt242.1 (!bt242.2.1) bt242.2.2.1 bt242.2.2.2.1 bt242.2.2.2.2.1 bt242.2.2.2.2.2.1 bt242.2.2.2.2.2.2))
def regex_reader_cat.j1 : Nat → List (S52) → Int → Bool → ByteArray → Int → Int → Int → Int → Option (Int × Int × Int × Int × Int × (List (S52)) × ByteArray × Int × Int × Int × Int)
 | 0, _, _, _, _, _, _, _, _ => none
 | k + 1, x3, x4, x15, x1000, x1001, x1002, x1003, x1004 => if x15 = true then (regex_reader_cat.j3 k x3 x1000 x1001 x1002 x1003 x1004) else (if x4 = 41 then ((regex_reader_fail.f x1000 x1001 x1002 x1003 x1004 x1001 9).bind fun bt249 => (regex_reader_cat.j3 k x3 bt249.1 bt249.2.1 bt249.2.2.1 bt249.2.2.2.1 bt249.2.2.2.2)) else ((regex_reader_atom.f k x1000 x1001 x1002 x1003 x1004).bind fun bt254 => (regex_reader_cat.l1 k x3 bt254.2.2.2.2.2.2.1 bt254.2.2.2.2.2.2.2.1 bt254.2.2.2.2.2.2.2.2.1 bt254.2.2.2.2.2.2.2.2.2.1 bt254.2.2.2.2.2.2.2.2.2.2 bt254.1 bt254.2.1 bt254.2.2.1 bt254.2.2.2.1 bt254.2.2.2.2.1 bt254.2.2.2.2.2.1)))
def regex_reader_cat.l1 : Nat → List (S52) → ByteArray → Int → Int → Int → Int → Int → Int → Int → Int → Int → List (S52) → Option (Int × Int × Int × Int × Int × (List (S52)) × ByteArray × Int × Int × Int × Int)
 | 0, _, _, _, _, _, _, _, _, _, _, _, _ => none
 | k + 1, x3, x1000, x1001, x1002, x1003, x1004, x268000, x268001, x268002, x268003, x268004, x268005 => (regex_reader_next.f x1000 x1001 x1002 x1003 x1004).bind fun bt268 => (if bt268.1 = 42 then (if bt268.2.1 = true then (regex_reader_cat.l1 k x3 bt268.2.2.1 (wrap64 (bt268.2.2.2.1 + 1)) bt268.2.2.2.2.1 bt268.2.2.2.2.2.1 bt268.2.2.2.2.2.2 4 0 0 0 0 (([(⟨x268000, (⟨x268001, x268002, x268003, x268004⟩ : S49), x268005⟩ : S52)] : List (S52)))) else (if x3.length < 2199023255552 then (regex_reader_cat.l0 k (x3 ++ [(⟨x268000, (⟨x268001, x268002, x268003, x268004⟩ : S49), x268005⟩ : S52)]) bt268.2.2.1 bt268.2.2.2.1 bt268.2.2.2.2.1 bt268.2.2.2.2.2.1 bt268.2.2.2.2.2.2) else (none))) else (if bt268.1 = 43 then (if bt268.2.1 = true then (regex_reader_cat.l1 k x3 bt268.2.2.1 (wrap64 (bt268.2.2.2.1 + 1)) bt268.2.2.2.2.1 bt268.2.2.2.2.2.1 bt268.2.2.2.2.2.2 5 0 0 0 0 (([(⟨x268000, (⟨x268001, x268002, x268003, x268004⟩ : S49), x268005⟩ : S52)] : List (S52)))) else (if x3.length < 2199023255552 then (regex_reader_cat.l0 k (x3 ++ [(⟨x268000, (⟨x268001, x268002, x268003, x268004⟩ : S49), x268005⟩ : S52)]) bt268.2.2.1 bt268.2.2.2.1 bt268.2.2.2.2.1 bt268.2.2.2.2.2.1 bt268.2.2.2.2.2.2) else (none))) else (if bt268.1 = 63 then (if bt268.2.1 = true then (regex_reader_cat.l1 k x3 bt268.2.2.1 (wrap64 (bt268.2.2.2.1 + 1)) bt268.2.2.2.2.1 bt268.2.2.2.2.2.1 bt268.2.2.2.2.2.2 6 0 0 0 0 (([(⟨x268000, (⟨x268001, x268002, x268003, x268004⟩ : S49), x268005⟩ : S52)] : List (S52)))) else (if x3.length < 2199023255552 then (regex_reader_cat.l0 k (x3 ++ [(⟨x268000, (⟨x268001, x268002, x268003, x268004⟩ : S49), x268005⟩ : S52)]) bt268.2.2.1 bt268.2.2.2.1 bt268.2.2.2.2.1 bt268.2.2.2.2.2.1 bt268.2.2.2.2.2.2) else (none))) else (if bt268.2.1 = true then (if x3.length < 2199023255552 then (regex_reader_cat.l0 k (x3 ++ [(⟨x268000, (⟨x268001, x268002, x268003, x268004⟩ : S49), x268005⟩ : S52)]) bt268.2.2.1 bt268.2.2.2.1 bt268.2.2.2.2.1 bt268.2.2.2.2.2.1 bt268.2.2.2.2.2.2) else (none)) else (if x3.length < 2199023255552 then (regex_reader_cat.l0 k (x3 ++ [(⟨x268000, (⟨x268001, x268002, x268003, x268004⟩ : S49), x268005⟩ : S52)]) bt268.2.2.1 bt268.2.2.2.1 bt268.2.2.2.2.1 bt268.2.2.2.2.2.1 bt268.2.2.2.2.2.2) else (none))))))
def regex_reader_cat.f : Nat → ByteArray → Int → Int → Int → Int → Option (Int × Int × Int × Int × Int × (List (S52)) × ByteArray × Int × Int × Int × Int)
 | 0, _, _, _, _, _ => none
 | k + 1, s0_0, s0_1, s0_2, s0_3, s0_4 => regex_reader_cat.l0 k ([] : List (S52)) s0_0 s0_1 s0_2 s0_3 s0_4
def regex_reader_atom.j0 : Nat → Int → ByteArray → Int → Int → Int → Int → Option (Int × Int × Int × Int × Int × (List (S52)) × ByteArray × Int × Int × Int × Int)
 | 0, _, _, _, _, _, _ => none
 | k + 1, x5, x1000, x1001, x1002, x1003, x1004 => (regex_reader_alt.f k x1000 x1001 x1002 x1003 x1004).bind fun bt313 => ((regex_reader_next.f bt313.2.2.2.2.2.2.1 bt313.2.2.2.2.2.2.2.1 bt313.2.2.2.2.2.2.2.2.1 bt313.2.2.2.2.2.2.2.2.2.1 bt313.2.2.2.2.2.2.2.2.2.2).bind fun bt327 => (if bt327.2.1 = true then (regex_reader_atom.j1 k x5 (bt327.1 != 41) bt327.2.2.1 bt327.2.2.2.1 bt327.2.2.2.2.1 bt327.2.2.2.2.2.1 bt327.2.2.2.2.2.2 bt313.1 bt313.2.1 bt313.2.2.1 bt313.2.2.2.1 bt313.2.2.2.2.1 bt313.2.2.2.2.2.1) else (regex_reader_atom.j1 k x5 true bt327.2.2.1 bt327.2.2.2.1 bt327.2.2.2.2.1 bt327.2.2.2.2.2.1 bt327.2.2.2.2.2.2 bt313.1 bt313.2.1 bt313.2.2.1 bt313.2.2.2.1 bt313.2.2.2.2.1 bt313.2.2.2.2.2.1)))
def regex_reader_atom.j1 : Nat → Int → Bool → ByteArray → Int → Int → Int → Int → Int → Int → Int → Int → Int → List (S52) → Option (Int × Int × Int × Int × Int × (List (S52)) × ByteArray × Int × Int × Int × Int)
 | 0, _, _, _, _, _, _, _, _, _, _, _, _, _ => none
 | k + 1, x5, x56, x1000, x1001, x1002, x1003, x1004, x327000, x327001, x327002, x327003, x327004, x327005 => if x56 = true then ((regex_reader_fail.f x1000 x1001 x1002 x1003 x1004 x5 9).bind fun bt334 => (some (x327000, x327001, x327002, x327003, x327004, x327005, bt334.1, wrap64 (bt334.2.1 + 1), wrap64 (bt334.2.2.1 - 1), bt334.2.2.2.1, bt334.2.2.2.2))) else (some (x327000, x327001, x327002, x327003, x327004, x327005, x1000, wrap64 (x1001 + 1), wrap64 (x1002 - 1), x1003, x1004))
def regex_reader_atom.j2 : Nat → Int → Int → Bool → ByteArray → Int → Int → Int → Int → Option (Int × Int × Int × Int × Int × (List (S52)) × ByteArray × Int × Int × Int × Int)
 | 0, _, _, _, _, _, _, _, _ => none
 | k + 1, x3, x21, x91, x1000, x1001, x1002, x1003, x1004 => if x91 = true then ((regex_reader_fail.f x1000 x1001 x1002 x1003 x1004 (wrap64 (x1001 - 1)) 9).bind fun bt352 => ((regex_Set_With.f 0 0 0 0 x3).bind fun bt357 => (some (1, bt357.1, bt357.2.1, bt357.2.2.1, bt357.2.2.2, ([] : List (S52)), bt352.1, bt352.2.1, bt352.2.2.1, bt352.2.2.2.1, bt352.2.2.2.2)))) else (if x21 = 92 then ((regex_reader_escape.f k x1000 x1001 x1002 x1003 x1004).bind fun bt361 => ((regex_Set_With.f 0 0 0 0 bt361.1).bind fun bt367 => (some (1, bt367.1, bt367.2.1, bt367.2.2.1, bt367.2.2.2, ([] : List (S52)), bt361.2.1, bt361.2.2.1, bt361.2.2.2.1, bt361.2.2.2.2.1, bt361.2.2.2.2.2)))) else ((regex_Set_With.f 0 0 0 0 x3).bind fun bt371 => (some (1, bt371.1, bt371.2.1, bt371.2.2.1, bt371.2.2.2, ([] : List (S52)), x1000, x1001, x1002, x1003, x1004))))
def regex_reader_atom.f : Nat → ByteArray → Int → Int → Int → Int → Option (Int × Int × Int × Int × Int × (List (S52)) × ByteArray × Int × Int × Int × Int)
 | 0, _, _, _, _, _ => none
 | k + 1, s0_0, s0_1, s0_2, s0_3, s0_4 => (regex_reader_next.f s0_0 s0_1 s0_2 s0_3 s0_4).bind fun bt301 => (if bt301.1 = 40 then (if (wrap64 (bt301.2.2.2.2.1 + 1)) > 20 then ((regex_reader_fail.f bt301.2.2.1 (wrap64 (bt301.2.2.2.1 + 1)) (wrap64 (bt301.2.2.2.2.1 + 1)) bt301.2.2.2.2.2.1 bt301.2.2.2.2.2.2 (wrap64 ((wrap64 (bt301.2.2.2.1 + 1)) - 1)) 14).bind fun bt308 => (regex_reader_atom.j0 k (wrap64 ((wrap64 (bt301.2.2.2.1 + 1)) - 1)) bt308.1 bt308.2.1 bt308.2.2.1 bt308.2.2.2.1 bt308.2.2.2.2)) else (regex_reader_atom.j0 k (wrap64 ((wrap64 (bt301.2.2.2.1 + 1)) - 1)) bt301.2.2.1 (wrap64 (bt301.2.2.2.1 + 1)) (wrap64 (bt301.2.2.2.2.1 + 1)) bt301.2.2.2.2.2.1 bt301.2.2.2.2.2.2)) else (if bt301.1 = 91 then ((regex_reader_set.f k bt301.2.2.1 (wrap64 (bt301.2.2.2.1 + 1)) bt301.2.2.2.2.1 bt301.2.2.2.2.2.1 bt301.2.2.2.2.2.2).bind fun bt339 => (some (1, bt339.1, bt339.2.1, bt339.2.2.1, bt339.2.2.2.1, ([] : List (S52)), bt339.2.2.2.2.1, bt339.2.2.2.2.2.1, bt339.2.2.2.2.2.2.1, bt339.2.2.2.2.2.2.2.1, bt339.2.2.2.2.2.2.2.2))) else (if bt301.1 = 46 then ((regex_Set_Not.f 0 0 0 0).bind fun bt348 => (some (1, bt348.1, bt348.2.1, bt348.2.2.1, bt348.2.2.2, ([] : List (S52)), bt301.2.2.1, wrap64 (bt301.2.2.2.1 + 1), bt301.2.2.2.2.1, bt301.2.2.2.2.2.1, bt301.2.2.2.2.2.2))) else (if bt301.1 = 94 then (some (7, 0, 0, 0, 0, ([] : List (S52)), bt301.2.2.1, wrap64 (bt301.2.2.2.1 + 1), bt301.2.2.2.2.1, bt301.2.2.2.2.2.1, bt301.2.2.2.2.2.2)) else (if bt301.1 = 36 then (some (8, 0, 0, 0, 0, ([] : List (S52)), bt301.2.2.1, wrap64 (bt301.2.2.2.1 + 1), bt301.2.2.2.2.1, bt301.2.2.2.2.2.1, bt301.2.2.2.2.2.2)) else (if bt301.1 = 42 then (regex_reader_atom.j2 k bt301.1 bt301.1 (bt301.1 == 42) bt301.2.2.1 (wrap64 (bt301.2.2.2.1 + 1)) bt301.2.2.2.2.1 bt301.2.2.2.2.2.1 bt301.2.2.2.2.2.2) else (if bt301.1 = 43 then (regex_reader_atom.j2 k bt301.1 bt301.1 (bt301.1 == 43) bt301.2.2.1 (wrap64 (bt301.2.2.2.1 + 1)) bt301.2.2.2.2.1 bt301.2.2.2.2.2.1 bt301.2.2.2.2.2.2) else (regex_reader_atom.j2 k bt301.1 bt301.1 (bt301.1 == 63) bt301.2.2.1 (wrap64 (bt301.2.2.2.1 + 1)) bt301.2.2.2.2.1 bt301.2.2.2.2.2.1 bt301.2.2.2.2.2.2))))))))
end
theorem regex_reader_alt.mono_s : ∀ k, (∀ y0 y1 y2 y3 y4, LeO (regex_reader_alt.f k y0 y1 y2 y3 y4) (regex_reader_alt.f (k + 1) y0 y1 y2 y3 y4)) ∧ (∀ y0 y1 y2 y3 y4 y5 y6 y7, LeO (regex_reader_alt.l0 k y0 y1 y2 y3 y4 y5 y6 y7) (regex_reader_alt.l0 (k + 1) y0 y1 y2 y3 y4 y5 y6 y7)) ∧ (∀ y0 y1 y2 y3 y4 y5 y6, LeO (regex_reader_alt.j1 k y0 y1 y2 y3 y4 y5 y6) (regex_reader_alt.j1 (k + 1) y0 y1 y2 y3 y4 y5 y6)) ∧ (∀ y0 y1 y2 y3 y4, LeO (regex_reader_cat.f k y0 y1 y2 y3 y4) (regex_reader_cat.f (k + 1) y0 y1 y2 y3 y4)) ∧ (∀ y0 y1 y2 y3 y4 y5, LeO (regex_reader_cat.j3 k y0 y1 y2 y3 y4 y5) (regex_reader_cat.j3 (k + 1) y0 y1 y2 y3 y4 y5)) ∧ (∀ y0 y1 y2 y3 y4 y5, LeO (regex_reader_cat.l0 k y0 y1 y2 y3 y4 y5) (regex_reader_cat.l0 (k + 1) y0 y1 y2 y3 y4 y5)) ∧ (∀ y0 y1 y2 y3 y4 y5 y6 y7, LeO (regex_reader_cat.j1 k y0 y1 y2 y3 y4 y5 y6 y7) (regex_reader_cat.j1 (k + 1) y0 y1 y2 y3 y4 y5 y6 y7)) ∧ (∀ y0 y1 y2 y3 y4 y5 y6 y7 y8 y9 y10 y11, LeO (regex_reader_cat.l1 k y0 y1 y2 y3 y4 y5 y6 y7 y8 y9 y10 y11) (regex_reader_cat.l1 (k + 1) y0 y1 y2 y3 y4 y5 y6 y7 y8 y9 y10 y11)) ∧ (∀ y0 y1 y2 y3 y4, LeO (regex_reader_atom.f k y0 y1 y2 y3 y4) (regex_reader_atom.f (k + 1) y0 y1 y2 y3 y4)) ∧ (∀ y0 y1 y2 y3 y4 y5, LeO (regex_reader_atom.j0 k y0 y1 y2 y3 y4 y5) (regex_reader_atom.j0 (k + 1) y0 y1 y2 y3 y4 y5)) ∧ (∀ y0 y1 y2 y3 y4 y5 y6 y7 y8 y9 y10 y11 y12, LeO (regex_reader_atom.j1 k y0 y1 y2 y3 y4 y5 y6 y7 y8 y9 y10 y11 y12) (regex_reader_atom.j1 (k + 1) y0 y1 y2 y3 y4 y5 y6 y7 y8 y9 y10 y11 y12)) ∧ (∀ y0 y1 y2 y3 y4 y5 y6 y7, LeO (regex_reader_atom.j2 k y0 y1 y2 y3 y4 y5 y6 y7) (regex_reader_atom.j2 (k + 1) y0 y1 y2 y3 y4 y5 y6 y7))
 | 0 => ⟨fun _ _ _ _ _ r h => by simp [regex_reader_alt.f] at h, fun _ _ _ _ _ _ _ _ r h => by simp [regex_reader_alt.l0] at h, fun _ _ _ _ _ _ _ r h => by simp [regex_reader_alt.j1] at h, fun _ _ _ _ _ r h => by simp [regex_reader_cat.f] at h, fun _ _ _ _ _ _ r h => by simp [regex_reader_cat.j3] at h, fun _ _ _ _ _ _ r h => by simp [regex_reader_cat.l0] at h, fun _ _ _ _ _ _ _ _ r h => by simp [regex_reader_cat.j1] at h, fun _ _ _ _ _ _ _ _ _ _ _ _ r h => by simp [regex_reader_cat.l1] at h, fun _ _ _ _ _ r h => by simp [regex_reader_atom.f] at h, fun _ _ _ _ _ _ r h => by simp [regex_reader_atom.j0] at h, fun _ _ _ _ _ _ _ _ _ _ _ _ _ r h => by simp [regex_reader_atom.j1] at h, fun _ _ _ _ _ _ _ _ r h => by simp [regex_reader_atom.j2] at h⟩
 | k + 1 => by
  obtain ⟨ih0, ih1, ih2, ih3, ih4, ih5, ih6, ih7, ih8, ih9, ih10, ih11⟩ := regex_reader_alt.mono_s k
  refine ⟨?_, ?_, ?_, ?_, ?_, ?_, ?_, ?_, ?_, ?_, ?_, ?_⟩
  ·intro y0 y1 y2 y3 y4
   unfold regex_reader_alt.f
   repeat' first
   | (with_reducible exact ih0 _ _ _ _ _)
   | (with_reducible exact ih1 _ _ _ _ _ _ _ _)
   | (with_reducible exact ih2 _ _ _ _ _ _ _)
   | (with_reducible exact ih3 _ _ _ _ _)
   | (with_reducible exact ih4 _ _ _ _ _ _)
   | (with_reducible exact ih5 _ _ _ _ _ _)
   | (with_reducible exact ih6 _ _ _ _ _ _ _ _)
   | (with_reducible exact ih7 _ _ _ _ _ _ _ _ _ _ _ _)
   | (with_reducible exact ih8 _ _ _ _ _)
   | (with_reducible exact ih9 _ _ _ _ _ _)
   | (with_reducible exact ih10 _ _ _ _ _ _ _ _ _ _ _ _ _)
   | (with_reducible exact ih11 _ _ _ _ _ _ _ _)
   | (with_reducible exact regex_reader_escape.mono _ _ _ _ _ _)
   | (with_reducible exact regex_reader_set.mono _ _ _ _ _ _)
   | (with_reducible exact LeO.refl _)
   | (with_reducible exact LeO.none _)
   | (with_reducible refine LeO.ite ?_ ?_)
   | (with_reducible refine LeO.bind ?_ (fun _ => ?_))
   | exact ih0 _ _ _ _ _
   | exact ih1 _ _ _ _ _ _ _ _
   | exact ih2 _ _ _ _ _ _ _
   | exact ih3 _ _ _ _ _
   | exact ih4 _ _ _ _ _ _
   | exact ih5 _ _ _ _ _ _
   | exact ih6 _ _ _ _ _ _ _ _
   | exact ih7 _ _ _ _ _ _ _ _ _ _ _ _
   | exact ih8 _ _ _ _ _
   | exact ih9 _ _ _ _ _ _
   | exact ih10 _ _ _ _ _ _ _ _ _ _ _ _ _
   | exact ih11 _ _ _ _ _ _ _ _
   | exact regex_reader_escape.mono _ _ _ _ _ _
   | exact regex_reader_set.mono _ _ _ _ _ _
   | exact LeO.none _
   | refine LeO.ite ?_ ?_
   | refine LeO.bind ?_ (fun _ => ?_)
  ·intro y0 y1 y2 y3 y4 y5 y6 y7
   unfold regex_reader_alt.l0
   repeat' first
   | (with_reducible exact ih0 _ _ _ _ _)
   | (with_reducible exact ih1 _ _ _ _ _ _ _ _)
   | (with_reducible exact ih2 _ _ _ _ _ _ _)
   | (with_reducible exact ih3 _ _ _ _ _)
   | (with_reducible exact ih4 _ _ _ _ _ _)
   | (with_reducible exact ih5 _ _ _ _ _ _)
   | (with_reducible exact ih6 _ _ _ _ _ _ _ _)
   | (with_reducible exact ih7 _ _ _ _ _ _ _ _ _ _ _ _)
   | (with_reducible exact ih8 _ _ _ _ _)
   | (with_reducible exact ih9 _ _ _ _ _ _)
   | (with_reducible exact ih10 _ _ _ _ _ _ _ _ _ _ _ _ _)
   | (with_reducible exact ih11 _ _ _ _ _ _ _ _)
   | (with_reducible exact regex_reader_escape.mono _ _ _ _ _ _)
   | (with_reducible exact regex_reader_set.mono _ _ _ _ _ _)
   | (with_reducible exact LeO.refl _)
   | (with_reducible exact LeO.none _)
   | (with_reducible refine LeO.ite ?_ ?_)
   | (with_reducible refine LeO.bind ?_ (fun _ => ?_))
   | exact ih0 _ _ _ _ _
   | exact ih1 _ _ _ _ _ _ _ _
   | exact ih2 _ _ _ _ _ _ _
   | exact ih3 _ _ _ _ _
   | exact ih4 _ _ _ _ _ _
   | exact ih5 _ _ _ _ _ _
   | exact ih6 _ _ _ _ _ _ _ _
   | exact ih7 _ _ _ _ _ _ _ _ _ _ _ _
   | exact ih8 _ _ _ _ _
   | exact ih9 _ _ _ _ _ _
   | exact ih10 _ _ _ _ _ _ _ _ _ _ _ _ _
   | exact ih11 _ _ _ _ _ _ _ _
   | exact regex_reader_escape.mono _ _ _ _ _ _
   | exact regex_reader_set.mono _ _ _ _ _ _
   | exact LeO.none _
   | refine LeO.ite ?_ ?_
   | refine LeO.bind ?_ (fun _ => ?_)
  ·intro y0 y1 y2 y3 y4 y5 y6
   unfold regex_reader_alt.j1
   repeat' first
   | (with_reducible exact ih0 _ _ _ _ _)
   | (with_reducible exact ih1 _ _ _ _ _ _ _ _)
   | (with_reducible exact ih2 _ _ _ _ _ _ _)
   | (with_reducible exact ih3 _ _ _ _ _)
   | (with_reducible exact ih4 _ _ _ _ _ _)
   | (with_reducible exact ih5 _ _ _ _ _ _)
   | (with_reducible exact ih6 _ _ _ _ _ _ _ _)
   | (with_reducible exact ih7 _ _ _ _ _ _ _ _ _ _ _ _)
   | (with_reducible exact ih8 _ _ _ _ _)
   | (with_reducible exact ih9 _ _ _ _ _ _)
   | (with_reducible exact ih10 _ _ _ _ _ _ _ _ _ _ _ _ _)
   | (with_reducible exact ih11 _ _ _ _ _ _ _ _)
   | (with_reducible exact regex_reader_escape.mono _ _ _ _ _ _)
   | (with_reducible exact regex_reader_set.mono _ _ _ _ _ _)
   | (with_reducible exact LeO.refl _)
   | (with_reducible exact LeO.none _)
   | (with_reducible refine LeO.ite ?_ ?_)
   | (with_reducible refine LeO.bind ?_ (fun _ => ?_))
   | exact ih0 _ _ _ _ _
   | exact ih1 _ _ _ _ _ _ _ _
   | exact ih2 _ _ _ _ _ _ _
   | exact ih3 _ _ _ _ _
   | exact ih4 _ _ _ _ _ _
   | exact ih5 _ _ _ _ _ _
   | exact ih6 _ _ _ _ _ _ _ _
   | exact ih7 _ _ _ _ _ _ _ _ _ _ _ _
   | exact ih8 _ _ _ _ _
   | exact ih9 _ _ _ _ _ _
   | exact ih10 _ _ _ _ _ _ _ _ _ _ _ _ _
   | exact ih11 _ _ _ _ _ _ _ _
   | exact regex_reader_escape.mono _ _ _ _ _ _
   | exact regex_reader_set.mono _ _ _ _ _ _
   | exact LeO.none _
   | refine LeO.ite ?_ ?_
   | refine LeO.bind ?_ (fun _ => ?_)
  ·intro y0 y1 y2 y3 y4
   unfold regex_reader_cat.f
   repeat' first
   | (with_reducible exact ih0 _ _ _ _ _)
   | (with_reducible exact ih1 _ _ _ _ _ _ _ _)
   | (with_reducible exact ih2 _ _ _ _ _ _ _)
   | (with_reducible exact ih3 _ _ _ _ _)
   | (with_reducible exact ih4 _ _ _ _ _ _)
   | (with_reducible exact ih5 _ _ _ _ _ _)
   | (with_reducible exact ih6 _ _ _ _ _ _ _ _)
   | (with_reducible exact ih7 _ _ _ _ _ _ _ _ _ _ _ _)
   | (with_reducible exact ih8 _ _ _ _ _)
   | (with_reducible exact ih9 _ _ _ _ _ _)
   | (with_reducible exact ih10 _ _ _ _ _ _ _ _ _ _ _ _ _)
   | (with_reducible exact ih11 _ _ _ _ _ _ _ _)
   | (with_reducible exact regex_reader_escape.mono _ _ _ _ _ _)
   | (with_reducible exact regex_reader_set.mono _ _ _ _ _ _)
   | (with_reducible exact LeO.refl _)
   | (with_reducible exact LeO.none _)
   | (with_reducible refine LeO.ite ?_ ?_)
   | (with_reducible refine LeO.bind ?_ (fun _ => ?_))
   | exact ih0 _ _ _ _ _
   | exact ih1 _ _ _ _ _ _ _ _
   | exact ih2 _ _ _ _ _ _ _
   | exact ih3 _ _ _ _ _
   | exact ih4 _ _ _ _ _ _
   | exact ih5 _ _ _ _ _ _
   | exact ih6 _ _ _ _ _ _ _ _
   | exact ih7 _ _ _ _ _ _ _ _ _ _ _ _
   | exact ih8 _ _ _ _ _
   | exact ih9 _ _ _ _ _ _
   | exact ih10 _ _ _ _ _ _ _ _ _ _ _ _ _
   | exact ih11 _ _ _ _ _ _ _ _
   | exact regex_reader_escape.mono _ _ _ _ _ _
   | exact regex_reader_set.mono _ _ _ _ _ _
   | exact LeO.none _
   | refine LeO.ite ?_ ?_
   | refine LeO.bind ?_ (fun _ => ?_)
  ·intro y0 y1 y2 y3 y4 y5
   unfold regex_reader_cat.j3
   repeat' first
   | (with_reducible exact ih0 _ _ _ _ _)
   | (with_reducible exact ih1 _ _ _ _ _ _ _ _)
   | (with_reducible exact ih2 _ _ _ _ _ _ _)
   | (with_reducible exact ih3 _ _ _ _ _)
   | (with_reducible exact ih4 _ _ _ _ _ _)
   | (with_reducible exact ih5 _ _ _ _ _ _)
   | (with_reducible exact ih6 _ _ _ _ _ _ _ _)
   | (with_reducible exact ih7 _ _ _ _ _ _ _ _ _ _ _ _)
   | (with_reducible exact ih8 _ _ _ _ _)
   | (with_reducible exact ih9 _ _ _ _ _ _)
   | (with_reducible exact ih10 _ _ _ _ _ _ _ _ _ _ _ _ _)
   | (with_reducible exact ih11 _ _ _ _ _ _ _ _)
   | (with_reducible exact regex_reader_escape.mono _ _ _ _ _ _)
   | (with_reducible exact regex_reader_set.mono _ _ _ _ _ _)
   | (with_reducible exact LeO.refl _)
   | (with_reducible exact LeO.none _)
   | (with_reducible refine LeO.ite ?_ ?_)
   | (with_reducible refine LeO.bind ?_ (fun _ => ?_))
   | exact ih0 _ _ _ _ _
   | exact ih1 _ _ _ _ _ _ _ _
   | exact ih2 _ _ _ _ _ _ _
   | exact ih3 _ _ _ _ _
   | exact ih4 _ _ _ _ _ _
   | exact ih5 _ _ _ _ _ _
   | exact ih6 _ _ _ _ _ _ _ _
   | exact ih7 _ _ _ _ _ _ _ _ _ _ _ _
   | exact ih8 _ _ _ _ _
   | exact ih9 _ _ _ _ _ _
   | exact ih10 _ _ _ _ _ _ _ _ _ _ _ _ _
   | exact ih11 _ _ _ _ _ _ _ _
   | exact regex_reader_escape.mono _ _ _ _ _ _
   | exact regex_reader_set.mono _ _ _ _ _ _
   | exact LeO.none _
   | refine LeO.ite ?_ ?_
   | refine LeO.bind ?_ (fun _ => ?_)
  ·intro y0 y1 y2 y3 y4 y5
   unfold regex_reader_cat.l0
   repeat' first
   | (with_reducible exact ih0 _ _ _ _ _)
   | (with_reducible exact ih1 _ _ _ _ _ _ _ _)
   | (with_reducible exact ih2 _ _ _ _ _ _ _)
   | (with_reducible exact ih3 _ _ _ _ _)
   | (with_reducible exact ih4 _ _ _ _ _ _)
   | (with_reducible exact ih5 _ _ _ _ _ _)
   | (with_reducible exact ih6 _ _ _ _ _ _ _ _)
   | (with_reducible exact ih7 _ _ _ _ _ _ _ _ _ _ _ _)
   | (with_reducible exact ih8 _ _ _ _ _)
   | (with_reducible exact ih9 _ _ _ _ _ _)
   | (with_reducible exact ih10 _ _ _ _ _ _ _ _ _ _ _ _ _)
   | (with_reducible exact ih11 _ _ _ _ _ _ _ _)
   | (with_reducible exact regex_reader_escape.mono _ _ _ _ _ _)
   | (with_reducible exact regex_reader_set.mono _ _ _ _ _ _)
   | (with_reducible exact LeO.refl _)
   | (with_reducible exact LeO.none _)
   | (with_reducible refine LeO.ite ?_ ?_)
   | (with_reducible refine LeO.bind ?_ (fun _ => ?_))
   | exact ih0 _ _ _ _ _
   | exact ih1 _ _ _ _ _ _ _ _
   | exact ih2 _ _ _ _ _ _ _
   | exact ih3 _ _ _ _ _
   | exact ih4 _ _ _ _ _ _
   | exact ih5 _ _ _ _ _ _
   | exact ih6 _ _ _ _ _ _ _ _
   | exact ih7 _ _ _ _ _ _ _ _ _ _ _ _
   | exact ih8 _ _ _ _ _
   | exact ih9 _ _ _ _ _ _
   | exact ih10 _ _ _ _ _ _ _ _ _ _ _ _ _
   | exact ih11 _ _ _ _ _ _ _ _
   | exact regex_reader_escape.mono _ _ _ _ _ _
   | exact regex_reader_set.mono _ _ _ _ _ _
   | exact LeO.none _
   | refine LeO.ite ?_ ?_
   | refine LeO.bind ?_ (fun _ => ?_)
  ·intro y0 y1 y2 y3 y4 y5 y6 y7
   unfold regex_reader_cat.j1
   repeat' first
   | (with_reducible exact ih0 _ _ _ _ _)
   | (with_reducible exact ih1 _ _ _ _ _ _ _ _)
   | (with_reducible exact ih2 _ _ _ _ _ _ _)
   | (with_reducible exact ih3 _ _ _ _ _)
   | (with_reducible exact ih4 _ _ _ _ _ _)
   | (with_reducible exact ih5 _ _ _ _ _ _)
   | (with_reducible exact ih6 _ _ _ _ _ _ _ _)
   | (with_reducible exact ih7 _ _ _ _ _ _ _ _ _ _ _ _)
   | (with_reducible exact ih8 _ _ _ _ _)
   | (with_reducible exact ih9 _ _ _ _ _ _)
   | (with_reducible exact ih10 _ _ _ _ _ _ _ _ _ _ _ _ _)
   | (with_reducible exact ih11 _ _ _ _ _ _ _ _)
   | (with_reducible exact regex_reader_escape.mono _ _ _ _ _ _)
   | (with_reducible exact regex_reader_set.mono _ _ _ _ _ _)
   | (with_reducible exact LeO.refl _)
   | (with_reducible exact LeO.none _)
   | (with_reducible refine LeO.ite ?_ ?_)
   | (with_reducible refine LeO.bind ?_ (fun _ => ?_))
   | exact ih0 _ _ _ _ _
   | exact ih1 _ _ _ _ _ _ _ _
   | exact ih2 _ _ _ _ _ _ _
   | exact ih3 _ _ _ _ _
   | exact ih4 _ _ _ _ _ _
   | exact ih5 _ _ _ _ _ _
   | exact ih6 _ _ _ _ _ _ _ _
   | exact ih7 _ _ _ _ _ _ _ _ _ _ _ _
   | exact ih8 _ _ _ _ _
   | exact ih9 _ _ _ _ _ _
   | exact ih10 _ _ _ _ _ _ _ _ _ _ _ _ _
   | exact ih11 _ _ _ _ _ _ _ _
   | exact regex_reader_escape.mono _ _ _ _ _ _
   | exact regex_reader_set.mono _ _ _ _ _ _
   | exact LeO.none _
   | refine LeO.ite ?_ ?_
   | refine LeO.bind ?_ (fun _ => ?_)
  ·intro y0 y1 y2 y3 y4 y5 y6 y7 y8 y9 y10 y11
   unfold regex_reader_cat.l1
   repeat' first
   | (with_reducible exact ih0 _ _ _ _ _)
   | (with_reducible exact ih1 _ _ _ _ _ _ _ _)
   | (with_reducible exact ih2 _ _ _ _ _ _ _)
   | (with_reducible exact ih3 _ _ _ _ _)
   | (with_reducible exact ih4 _ _ _ _ _ _)
   | (with_reducible exact ih5 _ _ _ _ _ _)
   | (with_reducible exact ih6 _ _ _ _ _ _ _ _)
   | (with_reducible exact ih7 _ _ _ _ _ _ _ _ _ _ _ _)
   | (with_reducible exact ih8 _ _ _ _ _)
   | (with_reducible exact ih9 _ _ _ _ _ _)
   | (with_reducible exact ih10 _ _ _ _ _ _ _ _ _ _ _ _ _)
   | (with_reducible exact ih11 _ _ _ _ _ _ _ _)
   | (with_reducible exact regex_reader_escape.mono _ _ _ _ _ _)
   | (with_reducible exact regex_reader_set.mono _ _ _ _ _ _)
   | (with_reducible exact LeO.refl _)
   | (with_reducible exact LeO.none _)
   | (with_reducible refine LeO.ite ?_ ?_)
   | (with_reducible refine LeO.bind ?_ (fun _ => ?_))
   | exact ih0 _ _ _ _ _
   | exact ih1 _ _ _ _ _ _ _ _
   | exact ih2 _ _ _ _ _ _ _
   | exact ih3 _ _ _ _ _
   | exact ih4 _ _ _ _ _ _
   | exact ih5 _ _ _ _ _ _
   | exact ih6 _ _ _ _ _ _ _ _
   | exact ih7 _ _ _ _ _ _ _ _ _ _ _ _
   | exact ih8 _ _ _ _ _
   | exact ih9 _ _ _ _ _ _
   | exact ih10 _ _ _ _ _ _ _ _ _ _ _ _ _
   | exact ih11 _ _ _ _ _ _ _ _
   | exact regex_reader_escape.mono _ _ _ _ _ _
   | exact regex_reader_set.mono _ _ _ _ _ _
   | exact LeO.none _
   | refine LeO.ite ?_ ?_
   | refine LeO.bind ?_ (fun _ => ?_)
  ·intro y0 y1 y2 y3 y4
   unfold regex_reader_atom.f
   repeat' first
   | (with_reducible exact ih0 _ _ _ _ _)
   | (with_reducible exact ih1 _ _ _ _ _ _ _ _)
   | (with_reducible exact ih2 _ _ _ _ _ _ _)
   | (with_reducible exact ih3 _ _ _ _ _)
   | (with_reducible exact ih4 _ _ _ _ _ _)
   | (with_reducible exact ih5 _ _ _ _ _ _)
   | (with_reducible exact ih6 _ _ _ _ _ _ _ _)
   | (with_reducible exact ih7 _ _ _ _ _ _ _ _ _ _ _ _)
   | (with_reducible exact ih8 _ _ _ _ _)
   | (with_reducible exact ih9 _ _ _ _ _ _)
   | (with_reducible exact ih10 _ _ _ _ _ _ _ _ _ _ _ _ _)
   | (with_reducible exact ih11 _ _ _ _ _ _ _ _)
   | (with_reducible exact regex_reader_escape.mono _ _ _ _ _ _)
   | (with_reducible exact regex_reader_set.mono _ _ _ _ _ _)
   | (with_reducible exact LeO.refl _)
   | (with_reducible exact LeO.none _)
   | (with_reducible refine LeO.ite ?_ ?_)
   | (with_reducible refine LeO.bind ?_ (fun _ => ?_))
   | exact ih0 _ _ _ _ _
   | exact ih1 _ _ _ _ _ _ _ _
   | exact ih2 _ _ _ _ _ _ _
   | exact ih3 _ _ _ _ _
   | exact ih4 _ _ _ _ _ _
   | exact ih5 _ _ _ _ _ _
   | exact ih6 _ _ _ _ _ _ _ _
   | exact ih7 _ _ _ _ _ _ _ _ _ _ _ _
   | exact ih8 _ _ _ _ _
   | exact ih9 _ _ _ _ _ _
   | exact ih10 _ _ _ _ _ _ _ _ _ _ _ _ _
   | exact ih11 _ _ _ _ _ _ _ _
   | exact regex_reader_escape.mono _ _ _ _ _ _
   | exact regex_reader_set.mono _ _ _ _ _ _
   | exact LeO.none _
   | refine LeO.ite ?_ ?_
   | refine LeO.bind ?_ (fun _ => ?_)
  ·intro y0 y1 y2 y3 y4 y5
   unfold regex_reader_atom.j0
   repeat' first
   | (with_reducible exact ih0 _ _ _ _ _)
   | (with_reducible exact ih1 _ _ _ _ _ _ _ _)
   | (with_reducible exact ih2 _ _ _ _ _ _ _)
   | (with_reducible exact ih3 _ _ _ _ _)
   | (with_reducible exact ih4 _ _ _ _ _ _)
   | (with_reducible exact ih5 _ _ _ _ _ _)
   | (with_reducible exact ih6 _ _ _ _ _ _ _ _)
   | (with_reducible exact ih7 _ _ _ _ _ _ _ _ _ _ _ _)
   | (with_reducible exact ih8 _ _ _ _ _)
   | (with_reducible exact ih9 _ _ _ _ _ _)
   | (with_reducible exact ih10 _ _ _ _ _ _ _ _ _ _ _ _ _)
   | (with_reducible exact ih11 _ _ _ _ _ _ _ _)
   | (with_reducible exact regex_reader_escape.mono _ _ _ _ _ _)
   | (with_reducible exact regex_reader_set.mono _ _ _ _ _ _)
   | (with_reducible exact LeO.refl _)
   | (with_reducible exact LeO.none _)
   | (with_reducible refine LeO.ite ?_ ?_)
   | (with_reducible refine LeO.bind ?_ (fun _ => ?_))
   | exact ih0 _ _ _ _ _
   | exact ih1 _ _ _ _ _ _ _ _
   | exact ih2 _ _ _ _ _ _ _
   | exact ih3 _ _ _ _ _
   | exact ih4 _ _ _ _ _ _
   | exact ih5 _ _ _ _ _ _
   | exact ih6 _ _ _ _ _ _ _ _
   | exact ih7 _ _ _ _ _ _ _ _ _ _ _ _
   | exact ih8 _ _ _ _ _
   | exact ih9 _ _ _ _ _ _
   | exact ih10 _ _ _ _ _ _ _ _ _ _ _ _ _
   | exact ih11 _ _ _ _ _ _ _ _
   | exact regex_reader_escape.mono _ _ _ _ _ _
   | exact regex_reader_set.mono _ _ _ _ _ _
   | exact LeO.none _
   | refine LeO.ite ?_ ?_
   | refine LeO.bind ?_ (fun _ => ?_)
  ·intro y0 y1 y2 y3 y4 y5 y6 y7 y8 y9 y10 y11 y12
   unfold regex_reader_atom.j1
   repeat' first
   | (with_reducible exact ih0 _ _ _ _ _)
   | (with_reducible exact ih1 _ _ _ _ _ _ _ _)
   | (with_reducible exact ih2 _ _ _ _ _ _ _)
   | (with_reducible exact ih3 _ _ _ _ _)
   | (with_reducible exact ih4 _ _ _ _ _ _)
   | (with_reducible exact ih5 _ _ _ _ _ _)
   | (with_reducible exact ih6 _ _ _ _ _ _ _ _)
   | (with_reducible exact ih7 _ _ _ _ _ _ _ _ _ _ _ _)
   | (with_reducible exact ih8 _ _ _ _ _)
   | (with_reducible exact ih9 _ _ _ _ _ _)
   | (with_reducible exact ih10 _ _ _ _ _ _ _ _ _ _ _ _ _)
   | (with_reducible exact ih11 _ _ _ _ _ _ _ _)
   | (with_reducible exact regex_reader_escape.mono _ _ _ _ _ _)
   | (with_reducible exact regex_reader_set.mono _ _ _ _ _ _)
   | (with_reducible exact LeO.refl _)
   | (with_reducible exact LeO.none _)
   | (with_reducible refine LeO.ite ?_ ?_)
   | (with_reducible refine LeO.bind ?_ (fun _ => ?_))
   | exact ih0 _ _ _ _ _
   | exact ih1 _ _ _ _ _ _ _ _
   | exact ih2 _ _ _ _ _ _ _
   | exact ih3 _ _ _ _ _
   | exact ih4 _ _ _ _ _ _
   | exact ih5 _ _ _ _ _ _
   | exact ih6 _ _ _ _ _ _ _ _
   | exact ih7 _ _ _ _ _ _ _ _ _ _ _ _
   | exact ih8 _ _ _ _ _
   | exact ih9 _ _ _ _ _ _
   | exact ih10 _ _ _ _ _ _ _ _ _ _ _ _ _
   | exact ih11 _ _ _ _ _ _ _ _
   | exact regex_reader_escape.mono _ _ _ _ _ _
   | exact regex_reader_set.mono _ _ _ _ _ _
   | exact LeO.none _
   | refine LeO.ite ?_ ?_
   | refine LeO.bind ?_ (fun _ => ?_)
  ·intro y0 y1 y2 y3 y4 y5 y6 y7
   unfold regex_reader_atom.j2
   repeat' first
   | (with_reducible exact ih0 _ _ _ _ _)
   | (with_reducible exact ih1 _ _ _ _ _ _ _ _)
   | (with_reducible exact ih2 _ _ _ _ _ _ _)
   | (with_reducible exact ih3 _ _ _ _ _)
   | (with_reducible exact ih4 _ _ _ _ _ _)
   | (with_reducible exact ih5 _ _ _ _ _ _)
   | (with_reducible exact ih6 _ _ _ _ _ _ _ _)
   | (with_reducible exact ih7 _ _ _ _ _ _ _ _ _ _ _ _)
   | (with_reducible exact ih8 _ _ _ _ _)
   | (with_reducible exact ih9 _ _ _ _ _ _)
   | (with_reducible exact ih10 _ _ _ _ _ _ _ _ _ _ _ _ _)
   | (with_reducible exact ih11 _ _ _ _ _ _ _ _)
   | (with_reducible exact regex_reader_escape.mono _ _ _ _ _ _)
   | (with_reducible exact regex_reader_set.mono _ _ _ _ _ _)
   | (with_reducible exact LeO.refl _)
   | (with_reducible exact LeO.none _)
   | (with_reducible refine LeO.ite ?_ ?_)
   | (with_reducible refine LeO.bind ?_ (fun _ => ?_))
   | exact ih0 _ _ _ _ _
   | exact ih1 _ _ _ _ _ _ _ _
   | exact ih2 _ _ _ _ _ _ _
   | exact ih3 _ _ _ _ _
   | exact ih4 _ _ _ _ _ _
   | exact ih5 _ _ _ _ _ _
   | exact ih6 _ _ _ _ _ _ _ _
   | exact ih7 _ _ _ _ _ _ _ _ _ _ _ _
   | exact ih8 _ _ _ _ _
   | exact ih9 _ _ _ _ _ _
   | exact ih10 _ _ _ _ _ _ _ _ _ _ _ _ _
   | exact ih11 _ _ _ _ _ _ _ _
   | exact regex_reader_escape.mono _ _ _ _ _ _
   | exact regex_reader_set.mono _ _ _ _ _ _
   | exact LeO.none _
   | refine LeO.ite ?_ ?_
   | refine LeO.bind ?_ (fun _ => ?_)
theorem regex_reader_alt.mono : ∀ a0 a1 a2 a3 a4 k, LeO (regex_reader_alt.f k a0 a1 a2 a3 a4) (regex_reader_alt.f (k + 1) a0 a1 a2 a3 a4) := by
 intro a0 a1 a2 a3 a4 k
 obtain ⟨ih0, ih1, ih2, ih3, ih4, ih5, ih6, ih7, ih8, ih9, ih10, ih11⟩ := regex_reader_alt.mono_s k
 exact ih0 a0 a1 a2 a3 a4
theorem regex_reader_cat.mono : ∀ a0 a1 a2 a3 a4 k, LeO (regex_reader_cat.f k a0 a1 a2 a3 a4) (regex_reader_cat.f (k + 1) a0 a1 a2 a3 a4) := by
 intro a0 a1 a2 a3 a4 k
 obtain ⟨ih0, ih1, ih2, ih3, ih4, ih5, ih6, ih7, ih8, ih9, ih10, ih11⟩ := regex_reader_alt.mono_s k
 exact ih3 a0 a1 a2 a3 a4
theorem regex_reader_atom.mono : ∀ a0 a1 a2 a3 a4 k, LeO (regex_reader_atom.f k a0 a1 a2 a3 a4) (regex_reader_atom.f (k + 1) a0 a1 a2 a3 a4) := by
 intro a0 a1 a2 a3 a4 k
 obtain ⟨ih0, ih1, ih2, ih3, ih4, ih5, ih6, ih7, ih8, ih9, ih10, ih11⟩ := regex_reader_alt.mono_s k
 exact ih8 a0 a1 a2 a3 a4
abbrev regex_reader_alt.Spec (k : Nat) : Prop := ∀ (g : Nat) (s0_0 : ByteArray) (s0_1 : Int) (s0_2 : Int) (s0_3 : Int) (s0_4 : Int) (r1 : Int) (r2 : Int) (r3 : Int) (r4 : Int) (r5 : Int) (r6 : List (S52)) (r7 : ByteArray) (r8 : Int) (r9 : Int) (r10 : Int) (r11 : Int) (w0 w : World) (hI : IsS76 w0 w g s0_0 s0_1 s0_2 s0_3 s0_4) (hB : Below w0.heap.size w0 w) (hT : TB w0) (h : regex_reader_alt.f k s0_0 s0_1 s0_2 s0_3 s0_4 = some (r1, r2, r3, r4, r5, r6, r7, r8, r9, r10, r11)),
  Calls Try.prog 29 #[.pointer (some ⟨g, 0, none⟩)] w fun e w' => ∃ v5_ : Value, e = .returned (.agg #[.int .i64 r1, .int .u64 r2, .int .u64 r3, .int .u64 r4, .int .u64 r5, v5_]) ∧ Kd.R k52 52 w' w.heap.size (fun _ => True) v5_ r6 ∧ IsS76 w0 w' g r7 r8 r9 r10 r11 ∧ Below w0.heap.size w0 w' ∧ KeepBut w w' g none
abbrev regex_reader_cat.Spec (k : Nat) : Prop := ∀ (g : Nat) (s0_0 : ByteArray) (s0_1 : Int) (s0_2 : Int) (s0_3 : Int) (s0_4 : Int) (r1 : Int) (r2 : Int) (r3 : Int) (r4 : Int) (r5 : Int) (r6 : List (S52)) (r7 : ByteArray) (r8 : Int) (r9 : Int) (r10 : Int) (r11 : Int) (w0 w : World) (hI : IsS76 w0 w g s0_0 s0_1 s0_2 s0_3 s0_4) (hB : Below w0.heap.size w0 w) (hT : TB w0) (h : regex_reader_cat.f k s0_0 s0_1 s0_2 s0_3 s0_4 = some (r1, r2, r3, r4, r5, r6, r7, r8, r9, r10, r11)),
  Calls Try.prog 35 #[.pointer (some ⟨g, 0, none⟩)] w fun e w' => ∃ v5_ : Value, e = .returned (.agg #[.int .i64 r1, .int .u64 r2, .int .u64 r3, .int .u64 r4, .int .u64 r5, v5_]) ∧ Kd.R k52 52 w' w.heap.size (fun _ => True) v5_ r6 ∧ IsS76 w0 w' g r7 r8 r9 r10 r11 ∧ Below w0.heap.size w0 w' ∧ KeepBut w w' g none
abbrev regex_reader_atom.Spec (k : Nat) : Prop := ∀ (g : Nat) (s0_0 : ByteArray) (s0_1 : Int) (s0_2 : Int) (s0_3 : Int) (s0_4 : Int) (r1 : Int) (r2 : Int) (r3 : Int) (r4 : Int) (r5 : Int) (r6 : List (S52)) (r7 : ByteArray) (r8 : Int) (r9 : Int) (r10 : Int) (r11 : Int) (w0 w : World) (hI : IsS76 w0 w g s0_0 s0_1 s0_2 s0_3 s0_4) (hB : Below w0.heap.size w0 w) (hT : TB w0) (h : regex_reader_atom.f k s0_0 s0_1 s0_2 s0_3 s0_4 = some (r1, r2, r3, r4, r5, r6, r7, r8, r9, r10, r11)),
  Calls Try.prog 42 #[.pointer (some ⟨g, 0, none⟩)] w fun e w' => ∃ v5_ : Value, e = .returned (.agg #[.int .i64 r1, .int .u64 r2, .int .u64 r3, .int .u64 r4, .int .u64 r5, v5_]) ∧ Kd.R k52 52 w' w.heap.size (fun _ => True) v5_ r6 ∧ IsS76 w0 w' g r7 r8 r9 r10 r11 ∧ Below w0.heap.size w0 w' ∧ KeepBut w w' g none

end Go.Proofs.Ythlffghlkggimaa.Pr
