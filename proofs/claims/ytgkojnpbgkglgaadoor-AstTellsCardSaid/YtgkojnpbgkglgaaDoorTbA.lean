/- The table of powers of ten is laid (TB); strings.Builder and strconv.Itoa: the library's contracts at this seat's numbers. -/
import Derived.Test.YtgkojnpbgkglgaaDoorShelf
import Derived.Shelf.Strconv.Itoa3
import Derived.Lib.AppendIntMem
import Derived.Shelf.Strings.SlTrimAscii
import Derived.Lib.SmallJoins
import Derived.WalkSmall
import Derived.Shelf.Strings.BuilderK
import Derived.Lib.OthersKept
namespace Go.Proofs.YtgkojnpbgkglgaaDoor
open Go Go.Shelf Go.RowKit Go.Sort Go.Lib

abbrev tt : Bool := true
abbrev ff : Bool := false
theorem setA {α : Type} (l : List α) (i : Nat) (x : α) : l.toArray.setIfInBounds i x = (l.set i x).toArray := List.setIfInBounds_toArray ..
theorem setZ {α : Type} (a b : α) (l : List α) : (a :: l).set 0 b = b :: l := List.set_cons_zero ..
theorem setS {α : Type} (a b : α) (l : List α) (n : Nat) : (a :: l).set (n + 1) b = a :: l.set n b := List.set_cons_succ ..
theorem isEmpty_bne (l : List UInt8) : l.isEmpty = !(l != ([] : List UInt8)) := by cases l <;> rfl
theorem bytesLess_turn : ∀ x y : List UInt8, Op.bytesLess y x = !(Op.bytesLess x y || x == y)
  | [], [] => rfl
  | [], _ :: _ => rfl
  | _ :: _, [] => rfl
  | a :: x, b :: y => by
    have hab : a < b ↔ a.toNat < b.toNat := UInt8.lt_iff_toNat_lt
    have hba : b < a ↔ b.toNat < a.toNat := UInt8.lt_iff_toNat_lt
    have he : a = b ↔ a.toNat = b.toNat := ⟨fun h => by rw [h], fun h => UInt8.toNat_inj.1 h⟩
    have ih := bytesLess_turn x y
    simp only [Op.bytesLess]
    by_cases h1 : a.toNat < b.toNat
    · have e1 : decide (a < b) = true := decide_eq_true (hab.2 h1)
      have e2 : decide (b < a) = false := decide_eq_false (fun h => by have := hba.1 h; omega)
      have e3 : (b == a) = false := beq_eq_false_iff_ne.2 (fun h => by have := he.1 h.symm; omega)
      rw [e1, e2, e3]; simp
    · have e1 : decide (a < b) = false := decide_eq_false (fun h => h1 (hab.1 h))
      by_cases h2 : b.toNat < a.toNat
      · have e2 : decide (b < a) = true := decide_eq_true (hba.2 h2)
        have e3 : (a == b) = false := beq_eq_false_iff_ne.2 (fun h => by have := he.1 h; omega)
        have e4 : (a :: x == b :: y) = false := beq_eq_false_iff_ne.2 (fun h => by injection h with h _; have := he.1 h; omega)
        rw [e1, e2, e3, e4]; rfl
      · have e : a = b := he.2 (by omega)
        subst e
        have e2 : (a :: x == a :: y) = (x == y) := by rw [Bool.eq_iff_iff, beq_iff_eq, beq_iff_eq]; simp
        rw [e1, ih, e2]; simp
theorem binOp_string_gtr2 (t : TypeId) (a b : ByteArray) : binOp .gtr t (.string a) (.string b) = pure (.bool (Op.bytesLess b.toList a.toList)) := by
  rw [bytesLess_turn a.toList b.toList]; simp [binOp, Op.stringOp]
theorem binOp_string_leq2 (t : TypeId) (a b : ByteArray) : binOp .leq t (.string a) (.string b) = pure (.bool (!(Op.bytesLess b.toList a.toList))) := by
  rw [bytesLess_turn a.toList b.toList]; simp [binOp, Op.stringOp]
theorem binOp_string_geq2 (t : TypeId) (a b : ByteArray) : binOp .geq t (.string a) (.string b) = pure (.bool (!(Op.bytesLess a.toList b.toList))) := by
  simp [binOp, Op.stringOp]
theorem fld26_0 (v0 v1 v2 v3 : Value) (w : World) : (Instr.field 26 (.agg #[v0, v1, v2, v3]) 0).run Tryd.prog w = .ok v0 w := by kernel_rfl
theorem fld26_1 (v0 v1 v2 v3 : Value) (w : World) : (Instr.field 26 (.agg #[v0, v1, v2, v3]) 1).run Tryd.prog w = .ok v1 w := by kernel_rfl
theorem fld26_2 (v0 v1 v2 v3 : Value) (w : World) : (Instr.field 26 (.agg #[v0, v1, v2, v3]) 2).run Tryd.prog w = .ok v2 w := by kernel_rfl
theorem fld26_3 (v0 v1 v2 v3 : Value) (w : World) : (Instr.field 26 (.agg #[v0, v1, v2, v3]) 3).run Tryd.prog w = .ok v3 w := by kernel_rfl
theorem fld29_0 (v0 v1 v2 v3 : Value) (w : World) : (Instr.field 29 (.agg #[v0, v1, v2, v3]) 0).run Tryd.prog w = .ok v0 w := by kernel_rfl
theorem fld29_1 (v0 v1 v2 v3 : Value) (w : World) : (Instr.field 29 (.agg #[v0, v1, v2, v3]) 1).run Tryd.prog w = .ok v1 w := by kernel_rfl
theorem fld29_2 (v0 v1 v2 v3 : Value) (w : World) : (Instr.field 29 (.agg #[v0, v1, v2, v3]) 2).run Tryd.prog w = .ok v2 w := by kernel_rfl
theorem fld29_3 (v0 v1 v2 v3 : Value) (w : World) : (Instr.field 29 (.agg #[v0, v1, v2, v3]) 3).run Tryd.prog w = .ok v3 w := by kernel_rfl
theorem fld42_0 (v0 v1 v2 v3 : Value) (w : World) : (Instr.field 42 (.agg #[v0, v1, v2, v3]) 0).run Tryd.prog w = .ok v0 w := by kernel_rfl
theorem fld42_1 (v0 v1 v2 v3 : Value) (w : World) : (Instr.field 42 (.agg #[v0, v1, v2, v3]) 1).run Tryd.prog w = .ok v1 w := by kernel_rfl
theorem fld42_2 (v0 v1 v2 v3 : Value) (w : World) : (Instr.field 42 (.agg #[v0, v1, v2, v3]) 2).run Tryd.prog w = .ok v2 w := by kernel_rfl
theorem fld42_3 (v0 v1 v2 v3 : Value) (w : World) : (Instr.field 42 (.agg #[v0, v1, v2, v3]) 3).run Tryd.prog w = .ok v3 w := by kernel_rfl
theorem ba_size_mk (a : Array UInt8) : (ByteArray.mk a).size = a.size := rfl
theorem lr_below {W W1 : World} (hg : W.grownBy W1 none) : Below W.heap.size W W1 := ⟨hg.os, hg.tape, hg.output, hg.size, fun k hk => hg.block k hk (by simp)⟩
theorem lr_base {x : Option Nat} {n : Nat} (h : ∃ b, x = some b ∧ n ≤ b) : ∀ k, x = some k → n ≤ k := fun k hk => by
  obtain ⟨b, hb, hle⟩ := h
  rw [hb] at hk
  cases hk
  exact hle
theorem hat_set {x y : Option Nat} {W : World} {p : Addr} {u : Value} (h : x = y ∨ ∃ b, x = some b ∧ W.heap.size ≤ b) : x = y ∨ ∃ b, x = some b ∧ (W.setCell p u).heap.size ≤ b := by simpa [World.setCell] using h
structure TB (w : World) : Prop where
  pow : Lib.TabIs Tryd.prog w "internal/strconv.uint64pow10" .u64 Lib.pow10Tab
theorem tb_glob : Tryd.prog.globalNamed "internal/strconv.uint64pow10" = some 0 := by kernel_rfl
theorem TB.below {w W : World} (h : TB w) (hb : Below w.heap.size w W) : TB W :=
  ⟨Joins.tab_stays tb_glob h.pow hb (Nat.le_refl _)⟩
theorem TB.drewN {w : World} (h : TB w) (n : Nat) : TB (w.drewN n) :=
  h.below ⟨rfl, rfl, rfl, Nat.le_refl _, fun _ _ => rfl⟩
theorem TB.drew {w : World} (h : TB w) : TB w.drew := h.below ⟨rfl, rfl, rfl, Nat.le_refl _, fun _ _ => rfl⟩

def lbRen : Go.Shelf.Ren := ⟨fun | 166 => 32 | 167 => 31 | 169 => 26 | 240 => 36 | 276 => 38 | n => n, fun | 70 => 58 | 72 => 61 | 37 => 59 | 127 => 75 | 20 => 20 | 75 => 70 | 80 => 63 | 164 => 79 | 178 => 72 | n => n, fun | n => n⟩
theorem lb169 : Lays.n169 Tryd.prog lbRen := { Tryd.lays169 with }
set_option maxRecDepth 100000 in
theorem lb166 : Lays.n166 Tryd.prog lbRen := { Tryd.lays169 with
  f166 := Tryd.func32.trans (congrArg some (by kernel_rfl))
  f240 := Tryd.func36.trans (congrArg some (by kernel_rfl))
  f276 := Tryd.func38.trans (congrArg some (by kernel_rfl))
  t4 := Tryd.underlying4
  a4 := Tryd.isAgg4
  z4 := Tryd.sizeOf4
  v4 := Tryd.zeroValue4
  t20 := Tryd.underlying20
  a20 := Tryd.isAgg20
  z20 := Tryd.sizeOf20
  v20 := Tryd.zeroValue20
  t75 := Tryd.underlying70
  a75 := Tryd.isAgg70
  z75 := Tryd.sizeOf70
  v75 := Tryd.zeroValue70
  t164 := Tryd.underlying79
  a164 := Tryd.isAgg79
  z164 := Tryd.sizeOf79
  v164 := Tryd.zeroValue79 }
set_option maxRecDepth 100000 in
theorem lb167 : Lays.n167 Tryd.prog lbRen := { lb166 with
  f167 := Tryd.func31.trans (congrArg some (by kernel_rfl))
  t5 := Tryd.underlying5
  a5 := Tryd.isAgg5
  z5 := Tryd.sizeOf5
  v5 := Tryd.zeroValue5 }
theorem lbX : Builder.Extra Tryd.prog lbRen := { Tryd.Builder_Extra_169 with }
theorem builder_writeByte (B b : Nat) (bs : List Value) (c : Int) (w : World) (h : Lib.IsBuilderF 61 5 B b bs w) (hlen : bs.length + 1 ≤ 140737488355328) (hBw : B ≤ w.heap.size) :
    Calls Tryd.prog 31 #[.pointer (some ⟨b, 0, none⟩), .int .u8 c] w fun e w' => e = .returned .nilIface ∧ (Lib.BuilderAtF 61 5 B b (.pointer (some ⟨b, 0, none⟩)) (bs ++ [.int .u8 c]) w' ∧ Below B w w' ∧ Lib.OthersKept 5 (some b) w w') :=
  Any.Builder_WriteByte_k lb167 lbX B b bs c w h hlen hBw
theorem builder_writeString (B b : Nat) (bs : List Value) (s : ByteArray) (w : World) (h : Lib.IsBuilderF 61 5 B b bs w) (hlen : bs.length + s.size ≤ 140737488355328) (hBw : B ≤ w.heap.size) :
    Calls Tryd.prog 32 #[.pointer (some ⟨b, 0, none⟩), .string s] w fun e w' => e = .returned (.tuple #[.int .i64 s.size, .nilIface]) ∧ (Lib.BuilderAtF 61 5 B b (.pointer (some ⟨b, 0, none⟩)) (bs ++ Lib.strCells s) w' ∧ Below B w w' ∧ Lib.OthersKept 5 (some b) w w') :=
  Any.Builder_WriteString_k lb166 lbX B b bs s w h hlen hBw
theorem builder_string (B b : Nat) (l : List UInt8) (w : World) (h : Lib.IsBuilderF 61 5 B b (Lib.byteCells l) w) (hBw : B ≤ w.heap.size) :
    Calls Tryd.prog 26 #[.pointer (some ⟨b, 0, none⟩)] w fun e w' => e = .returned (.string ⟨l.toArray⟩) ∧ Below B w w' := (Any.Builder_String_any_k lb169 lbX B b l w h hBw).mono fun _ _ h => ⟨h.1, h.2.2.1⟩
theorem strconv_Itoa_any (n : Nat) (h : n < 9223372036854775808) (w : World) (hT : TB w) :
    Calls Tryd.prog 33 #[.int .i64 n] w fun e w' => e = .returned (.string ⟨(Lib.decDigits n).toArray⟩) ∧ Below w.heap.size w w' :=
  (Tryd.strconv_Itoa (n : Int) (by omega) (by omega) w hT.pow).mono fun e w' ⟨he, k, os, hw⟩ => by
    subst hw
    refine ⟨?_, Lib.below_grow _ _ (Nat.le_refl _) _ _⟩
    rw [he, Lib.itoa_nonneg]
end Go.Proofs.YtgkojnpbgkglgaaDoor
