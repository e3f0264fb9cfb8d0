/- The table of powers of ten is laid (TB). -/
import Derived.Test.YtghabadccaghcaaDoorShelf
import Derived.Shelf.Strconv.Itoa3
import Derived.Lib.AppendIntMem
import Derived.Shelf.Strings.SlTrimAscii
import Derived.Lib.SmallJoins
import Derived.WalkSmall
namespace Go.Proofs.YtghabadccaghcaaDoor
open Go Go.Shelf Go.RowKit Go.Sort Go.Lib

abbrev tt : Bool := true
abbrev ff : Bool := false
theorem setA {α : Type} (l : List α) (i : Nat) (x : α) : l.toArray.setIfInBounds i x = (l.set i x).toArray := List.setIfInBounds_toArray ..
theorem setZ {α : Type} (a b : α) (l : List α) : (a :: l).set 0 b = b :: l := List.set_cons_zero ..
theorem setS {α : Type} (a b : α) (l : List α) (n : Nat) : (a :: l).set (n + 1) b = a :: l.set n b := List.set_cons_succ ..
theorem isEmpty_bne (l : List UInt8) : l.isEmpty = !(l != ([] : List UInt8)) := by cases l <;> rfl
theorem bytesLess_turn : ∀ x y : List UInt8, Op.bytesLess y x = !(Op.bytesLess x y || x == y)
  | [], [] => rfl
  | [], _ :: _ => rfl
  | _ :: _, [] => rfl
  | a :: x, b :: y => by
    have hab : a < b ↔ a.toNat < b.toNat := UInt8.lt_iff_toNat_lt
    have hba : b < a ↔ b.toNat < a.toNat := UInt8.lt_iff_toNat_lt
    have he : a = b ↔ a.toNat = b.toNat := ⟨fun h => by rw [h], fun h => UInt8.toNat_inj.1 h⟩
    have ih := bytesLess_turn x y
    simp only [Op.bytesLess]
    by_cases h1 : a.toNat < b.toNat
    · have e1 : decide (a < b) = true := decide_eq_true (hab.2 h1)
      have e2 : decide (b < a) = false := decide_eq_false (fun h => by have := hba.1 h; omega)
      have e3 : (b == a) = false := beq_eq_false_iff_ne.2 (fun h => by have := he.1 h.symm; omega)
      rw [e1, e2, e3]; simp
    · have e1 : decide (a < b) = false := decide_eq_false (fun h => h1 (hab.1 h))
      by_cases h2 : b.toNat < a.toNat
      · have e2 : decide (b < a) = true := decide_eq_true (hba.2 h2)
        have e3 : (a == b) = false := beq_eq_false_iff_ne.2 (fun h => by have := he.1 h; omega)
        have e4 : (a :: x == b :: y) = false := beq_eq_false_iff_ne.2 (fun h => by injection h with h _; have := he.1 h; omega)
        rw [e1, e2, e3, e4]; rfl
      · have e : a = b := he.2 (by omega)
        subst e
        have e2 : (a :: x == a :: y) = (x == y) := by rw [Bool.eq_iff_iff, beq_iff_eq, beq_iff_eq]; simp
        rw [e1, ih, e2]; simp
theorem binOp_string_gtr2 (t : TypeId) (a b : ByteArray) : binOp .gtr t (.string a) (.string b) = pure (.bool (Op.bytesLess b.toList a.toList)) := by
  rw [bytesLess_turn a.toList b.toList]; simp [binOp, Op.stringOp]
theorem binOp_string_leq2 (t : TypeId) (a b : ByteArray) : binOp .leq t (.string a) (.string b) = pure (.bool (!(Op.bytesLess b.toList a.toList))) := by
  rw [bytesLess_turn a.toList b.toList]; simp [binOp, Op.stringOp]
theorem binOp_string_geq2 (t : TypeId) (a b : ByteArray) : binOp .geq t (.string a) (.string b) = pure (.bool (!(Op.bytesLess a.toList b.toList))) := by
  simp [binOp, Op.stringOp]
theorem fld25_0 (v0 : Value) (w : World) : (Instr.field 25 (.agg #[v0]) 0).run Tryd.prog w = .ok v0 w := by kernel_rfl
theorem fld28_0 (v0 v1 v2 : Value) (w : World) : (Instr.field 28 (.agg #[v0, v1, v2]) 0).run Tryd.prog w = .ok v0 w := by kernel_rfl
theorem fld28_1 (v0 v1 v2 : Value) (w : World) : (Instr.field 28 (.agg #[v0, v1, v2]) 1).run Tryd.prog w = .ok v1 w := by kernel_rfl
theorem fld28_2 (v0 v1 v2 : Value) (w : World) : (Instr.field 28 (.agg #[v0, v1, v2]) 2).run Tryd.prog w = .ok v2 w := by kernel_rfl
theorem fld47_0 (v0 v1 v2 v3 : Value) (w : World) : (Instr.field 47 (.agg #[v0, v1, v2, v3]) 0).run Tryd.prog w = .ok v0 w := by kernel_rfl
theorem fld47_1 (v0 v1 v2 v3 : Value) (w : World) : (Instr.field 47 (.agg #[v0, v1, v2, v3]) 1).run Tryd.prog w = .ok v1 w := by kernel_rfl
theorem fld47_2 (v0 v1 v2 v3 : Value) (w : World) : (Instr.field 47 (.agg #[v0, v1, v2, v3]) 2).run Tryd.prog w = .ok v2 w := by kernel_rfl
theorem fld47_3 (v0 v1 v2 v3 : Value) (w : World) : (Instr.field 47 (.agg #[v0, v1, v2, v3]) 3).run Tryd.prog w = .ok v3 w := by kernel_rfl
theorem fld62_0 (v0 v1 v2 v3 : Value) (w : World) : (Instr.field 62 (.agg #[v0, v1, v2, v3]) 0).run Tryd.prog w = .ok v0 w := by kernel_rfl
theorem fld62_1 (v0 v1 v2 v3 : Value) (w : World) : (Instr.field 62 (.agg #[v0, v1, v2, v3]) 1).run Tryd.prog w = .ok v1 w := by kernel_rfl
theorem fld62_2 (v0 v1 v2 v3 : Value) (w : World) : (Instr.field 62 (.agg #[v0, v1, v2, v3]) 2).run Tryd.prog w = .ok v2 w := by kernel_rfl
theorem fld62_3 (v0 v1 v2 v3 : Value) (w : World) : (Instr.field 62 (.agg #[v0, v1, v2, v3]) 3).run Tryd.prog w = .ok v3 w := by kernel_rfl
theorem ba_size_mk (a : Array UInt8) : (ByteArray.mk a).size = a.size := rfl
theorem hat_set {x y : Option Nat} {W : World} {p : Addr} {u : Value} (h : x = y ∨ ∃ b, x = some b ∧ W.heap.size ≤ b) : x = y ∨ ∃ b, x = some b ∧ (W.setCell p u).heap.size ≤ b := by simpa [World.setCell] using h
structure TB (w : World) : Prop where
  pow : Lib.TabIs Tryd.prog w "internal/strconv.uint64pow10" .u64 Lib.pow10Tab
theorem tb_glob : Tryd.prog.globalNamed "internal/strconv.uint64pow10" = some 0 := by kernel_rfl
theorem TB.below {w W : World} (h : TB w) (hb : Below w.heap.size w W) : TB W :=
  ⟨Joins.tab_stays tb_glob h.pow hb (Nat.le_refl _)⟩
theorem TB.drewN {w : World} (h : TB w) (n : Nat) : TB (w.drewN n) :=
  h.below ⟨rfl, rfl, rfl, Nat.le_refl _, fun _ _ => rfl⟩
theorem TB.drew {w : World} (h : TB w) : TB w.drew := h.below ⟨rfl, rfl, rfl, Nat.le_refl _, fun _ _ => rfl⟩

end Go.Proofs.YtghabadccaghcaaDoor
