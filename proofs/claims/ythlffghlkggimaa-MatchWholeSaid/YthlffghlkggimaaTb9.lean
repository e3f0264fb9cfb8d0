/- No table is asked for here (TB). -/
import Derived.Test.YthlffghlkggimaaProg
import Derived.Below
import Derived.Lib.SmallJoins
import Derived.WalkKit
import Derived.WalkSmall
import Derived.Deep.Draws
import Derived.Laws.IdiomStrings
import Derived.MapKept
import Derived.KernelRfl
namespace Go.Proofs.Ythlffghlkggimaa
open Go Go.RowKit
abbrev tt : Bool := true
abbrev ff : Bool := false
theorem setA {α : Type} (l : List α) (i : Nat) (x : α) : l.toArray.setIfInBounds i x = (l.set i x).toArray := List.setIfInBounds_toArray ..
theorem setZ {α : Type} (a b : α) (l : List α) : (a :: l).set 0 b = b :: l := List.set_cons_zero ..
theorem setS {α : Type} (a b : α) (l : List α) (n : Nat) : (a :: l).set (n + 1) b = a :: l.set n b := List.set_cons_succ ..
theorem isEmpty_bne (l : List UInt8) : l.isEmpty = !(l != ([] : List UInt8)) := by cases l <;> rfl
theorem bytesLess_turn : ∀ x y : List UInt8, Op.bytesLess y x = !(Op.bytesLess x y || x == y)
 | [], [] => rfl
 | [], _ :: _ => rfl
 | _ :: _, [] => rfl
 | a :: x, b :: y => by
  have hab : a < b ↔ a.toNat < b.toNat := UInt8.lt_iff_toNat_lt
  have hba : b < a ↔ b.toNat < a.toNat := UInt8.lt_iff_toNat_lt
  have he : a = b ↔ a.toNat = b.toNat := ⟨fun h => by rw [h], fun h => UInt8.toNat_inj.1 h⟩
  have ih := bytesLess_turn x y
  simp only [Op.bytesLess]
  by_cases h1 : a.toNat < b.toNat
  ·have e1 : decide (a < b) = true := decide_eq_true (hab.2 h1)
   have e2 : decide (b < a) = false := decide_eq_false (fun h => by have := hba.1 h; omega)
   have e3 : (b == a) = false := beq_eq_false_iff_ne.2 (fun h => by have := he.1 h.symm; omega)
   rw [e1, e2, e3]; simp
  ·have e1 : decide (a < b) = false := decide_eq_false (fun h => h1 (hab.1 h))
   by_cases h2 : b.toNat < a.toNat
   ·have e2 : decide (b < a) = true := decide_eq_true (hba.2 h2)
    have e3 : (a == b) = false := beq_eq_false_iff_ne.2 (fun h => by have := he.1 h; omega)
    have e4 : (a :: x == b :: y) = false := beq_eq_false_iff_ne.2 (fun h => by injection h with h _; have := he.1 h; omega)
    rw [e1, e2, e3, e4]; rfl
   ·have e : a = b := he.2 (by omega)
    subst e
    have e2 : (a :: x == a :: y) = (x == y) := by rw [Bool.eq_iff_iff, beq_iff_eq, beq_iff_eq]; simp
    rw [e1, ih, e2]; simp
theorem binOp_string_gtr2 (t : TypeId) (a b : ByteArray) : binOp .gtr t (.string a) (.string b) = pure (.bool (Op.bytesLess b.toList a.toList)) := by
 rw [bytesLess_turn a.toList b.toList]; simp [binOp, Op.stringOp]
theorem binOp_string_leq2 (t : TypeId) (a b : ByteArray) : binOp .leq t (.string a) (.string b) = pure (.bool (!(Op.bytesLess b.toList a.toList))) := by
 rw [bytesLess_turn a.toList b.toList]; simp [binOp, Op.stringOp]
theorem binOp_string_geq2 (t : TypeId) (a b : ByteArray) : binOp .geq t (.string a) (.string b) = pure (.bool (!(Op.bytesLess a.toList b.toList))) := by
 simp [binOp, Op.stringOp]
theorem fld30_0 (v0 v1 v2 : Value) (w : World) : (Instr.field 30 (.agg #[v0, v1, v2]) 0).run Try.prog w = .ok v0 w := by kernel_rfl
theorem fld30_1 (v0 v1 v2 : Value) (w : World) : (Instr.field 30 (.agg #[v0, v1, v2]) 1).run Try.prog w = .ok v1 w := by kernel_rfl
theorem fld30_2 (v0 v1 v2 : Value) (w : World) : (Instr.field 30 (.agg #[v0, v1, v2]) 2).run Try.prog w = .ok v2 w := by kernel_rfl
theorem fld58_0 (v0 v1 v2 v3 v4 : Value) (w : World) : (Instr.field 58 (.agg #[v0, v1, v2, v3, v4]) 0).run Try.prog w = .ok v0 w := by kernel_rfl
theorem fld58_1 (v0 v1 v2 v3 v4 : Value) (w : World) : (Instr.field 58 (.agg #[v0, v1, v2, v3, v4]) 1).run Try.prog w = .ok v1 w := by kernel_rfl
theorem fld58_2 (v0 v1 v2 v3 v4 : Value) (w : World) : (Instr.field 58 (.agg #[v0, v1, v2, v3, v4]) 2).run Try.prog w = .ok v2 w := by kernel_rfl
theorem fld58_3 (v0 v1 v2 v3 v4 : Value) (w : World) : (Instr.field 58 (.agg #[v0, v1, v2, v3, v4]) 3).run Try.prog w = .ok v3 w := by kernel_rfl
theorem fld58_4 (v0 v1 v2 v3 v4 : Value) (w : World) : (Instr.field 58 (.agg #[v0, v1, v2, v3, v4]) 4).run Try.prog w = .ok v4 w := by kernel_rfl
theorem fld66_0 (v0 v1 : Value) (w : World) : (Instr.field 66 (.agg #[v0, v1]) 0).run Try.prog w = .ok v0 w := by kernel_rfl
theorem fld66_1 (v0 v1 : Value) (w : World) : (Instr.field 66 (.agg #[v0, v1]) 1).run Try.prog w = .ok v1 w := by kernel_rfl
theorem fld76_0 (v0 v1 v2 v3 v4 : Value) (w : World) : (Instr.field 76 (.agg #[v0, v1, v2, v3, v4]) 0).run Try.prog w = .ok v0 w := by kernel_rfl
theorem fld76_1 (v0 v1 v2 v3 v4 : Value) (w : World) : (Instr.field 76 (.agg #[v0, v1, v2, v3, v4]) 1).run Try.prog w = .ok v1 w := by kernel_rfl
theorem fld76_2 (v0 v1 v2 v3 v4 : Value) (w : World) : (Instr.field 76 (.agg #[v0, v1, v2, v3, v4]) 2).run Try.prog w = .ok v2 w := by kernel_rfl
theorem fld76_3 (v0 v1 v2 v3 v4 : Value) (w : World) : (Instr.field 76 (.agg #[v0, v1, v2, v3, v4]) 3).run Try.prog w = .ok v3 w := by kernel_rfl
theorem fld76_4 (v0 v1 v2 v3 v4 : Value) (w : World) : (Instr.field 76 (.agg #[v0, v1, v2, v3, v4]) 4).run Try.prog w = .ok v4 w := by kernel_rfl
theorem fld84_0 (v0 v1 v2 v3 : Value) (w : World) : (Instr.field 84 (.agg #[v0, v1, v2, v3]) 0).run Try.prog w = .ok v0 w := by kernel_rfl
theorem fld84_1 (v0 v1 v2 v3 : Value) (w : World) : (Instr.field 84 (.agg #[v0, v1, v2, v3]) 1).run Try.prog w = .ok v1 w := by kernel_rfl
theorem fld84_2 (v0 v1 v2 v3 : Value) (w : World) : (Instr.field 84 (.agg #[v0, v1, v2, v3]) 2).run Try.prog w = .ok v2 w := by kernel_rfl
theorem fld84_3 (v0 v1 v2 v3 : Value) (w : World) : (Instr.field 84 (.agg #[v0, v1, v2, v3]) 3).run Try.prog w = .ok v3 w := by kernel_rfl
theorem fld93_0 (v0 v1 v2 : Value) (w : World) : (Instr.field 93 (.agg #[v0, v1, v2]) 0).run Try.prog w = .ok v0 w := by kernel_rfl
theorem fld93_1 (v0 v1 v2 : Value) (w : World) : (Instr.field 93 (.agg #[v0, v1, v2]) 1).run Try.prog w = .ok v1 w := by kernel_rfl
theorem fld93_2 (v0 v1 v2 : Value) (w : World) : (Instr.field 93 (.agg #[v0, v1, v2]) 2).run Try.prog w = .ok v2 w := by kernel_rfl
theorem ba_size_mk (a : Array UInt8) : (ByteArray.mk a).size = a.size := rfl
theorem lr_below {W W1 : World} (hg : W.grownBy W1 none) : Below W.heap.size W W1 := ⟨hg.os, hg.tape, hg.output, hg.size, fun k hk => hg.block k hk (by simp)⟩
theorem lr_base {x : Option Nat} {n : Nat} (h : ∃ b, x = some b ∧ n ≤ b) : ∀ k, x = some k → n ≤ k := fun k hk => by
 obtain ⟨b, hb, hle⟩ := h
 rw [hb] at hk
 cases hk
 exact hle
theorem hat_set {x y : Option Nat} {W : World} {p : Addr} {u : Value} (h : x = y ∨ ∃ b, x = some b ∧ W.heap.size ≤ b) : x = y ∨ ∃ b, x = some b ∧ (W.setCell p u).heap.size ≤ b := by simpa [World.setCell] using h
theorem map_at {W : World} {o : Obj} {b : Nat} (hb : b = W.heap.size) : (W.alloc o).heap[b]? = some o := by subst hb; rw [← World.alloc_eq]; simp
theorem map_set (a : Array Obj) (o o' : Obj) : (a.push o).setIfInBounds a.size o' = a.push o' := by
 apply Array.ext'
 simp
theorem map_ins {W : World} {b : Nat} {es : Array MapEntry} {c : Nat} {k : Int} {v : Value} (hb : b = W.heap.size) (hf : Instr.findNow (.int .u8) (.int .u8 k) es.toList 0 = some none) :
  (Instr.mapUpdate 95 (.map (some b)) (.int .u8 k) v).run Try.prog (W.alloc (.map es c)) = .ok () (W.alloc (.map (es.push { key := .int .u8 k, val := v, born := c }) (c + 1))) := by
 have hm := Try.underlying95
 have hk := Try.underlying5
 have h1 := map_at (o := .map es c) hb
 have hc : (Instr.checkKey false 10000 5 (.int .u8 k)).run Try.prog (W.alloc (.map es c)) = .ok () (W.alloc (.map es c)) := MapKept.run_checkKey (k := .int .u8 k) hk (by simp [MapKept.IsKey]) false 9999
 simp [Instr.mapUpdate, run_underlying hm, MapKept.run_getObj_map h1, hc, MapKept.run_findKey hk hf, MapKept.run_setObj_map _ h1, Result.andThen]
 subst hb
 simp only [← World.alloc_eq, map_set]
theorem map_look {W : World} {b : Nat} {es : Array MapEntry} {c : Nat} {k : Int} {r : Option (Nat × Value)} (hb : b = W.heap.size) (hf : Instr.findNow (.int .u8) (.int .u8 k) es.toList 0 = some r) :
  (Instr.lookup 95 (.map (some b)) (.int .u8 k) false).run Try.prog (W.alloc (.map es c)) = .ok (match r with | some (_, v) => v | none => .int .i64 0) (W.alloc (.map es c)) := by
 have hm := Try.underlying95
 have hk := Try.underlying5
 have h1 := map_at (o := .map es c) hb
 have hc : (Instr.checkKey es.isEmpty 10000 5 (.int .u8 k)).run Try.prog (W.alloc (.map es c)) = .ok () (W.alloc (.map es c)) := MapKept.run_checkKey (k := .int .u8 k) hk (by simp [MapKept.IsKey]) es.isEmpty 9999
 have hz : ∀ w : World, (zeroValue 3).run Try.prog w = .ok (.int .i64 0) w := fun w => by kernel_rfl
 cases r with
 | none => simp [Instr.lookup, run_underlying hm, MapKept.run_getObj_map h1, hc, MapKept.run_findKey hk hf, hz, Result.andThen]
 | some p => obtain ⟨i, v⟩ := p; simp [Instr.lookup, run_underlying hm, MapKept.run_getObj_map h1, hc, MapKept.run_findKey hk hf, Result.andThen]
theorem look_event {P : Program} {ops : Array Oper} {Q : Exit → Act → World → Prop} {a : Act} {rest : List Oper} {o : Oper} {W : World} {ob : Obj} {v : Value} (hgd : o.guard = none) (hrun : (execOp a.eval o).run P (W.alloc ob) = .ok (.value v) (W.alloc ob))
  (h : ∀ w1, Below W.heap.size W w1 → wpList P ops Q rest (a.put o.dst v) w1) : wpList P ops Q (o :: rest) a (W.alloc ob) := by
 refine wpList_plain hgd fun K hK => ?_
 unfold Oper.wp
 rw [hrun]
 exact hK _ _ (h _ ((Below.refl _ _).alloc (Nat.le_refl _) _))
def sg1 : Array MapEntry := #[{ key := .int .u8 42, val := .int .i64 4, born := 0 }]
def sg2 : Array MapEntry := sg1.push { key := .int .u8 43, val := .int .i64 5, born := 1 }
def sg3 : Array MapEntry := sg2.push { key := .int .u8 63, val := .int .i64 6, born := 2 }
theorem fld9000_0 (W : World) (b : Nat) (hb : b = W.heap.size) : (Instr.mapUpdate 95 (.map (some b)) (.int .u8 42) (.int .i64 4)).run Try.prog (W.alloc (.map #[] 0)) = .ok () (W.alloc (.map sg1 1)) := map_ins hb rfl
theorem fld9000_1 (W : World) (b : Nat) (hb : b = W.heap.size) : (Instr.mapUpdate 95 (.map (some b)) (.int .u8 43) (.int .i64 5)).run Try.prog (W.alloc (.map sg1 1)) = .ok () (W.alloc (.map sg2 2)) := map_ins hb rfl
theorem fld9000_2 (W : World) (b : Nat) (hb : b = W.heap.size) : (Instr.mapUpdate 95 (.map (some b)) (.int .u8 63) (.int .i64 6)).run Try.prog (W.alloc (.map sg2 2)) = .ok () (W.alloc (.map sg3 3)) := map_ins hb rfl
theorem fld9000_3 (W : World) (b : Nat) (k : Int) (hb : b = W.heap.size) : (Instr.lookup 95 (.map (some b)) (.int .u8 k) false).run Try.prog (W.alloc (.map sg3 3)) = .ok (.int .i64 (if (k == 42) = true then 4 else if (k == 43) = true then 5 else if (k == 63) = true then 6 else 0)) (W.alloc (.map sg3 3)) := by
 cases h1 : k == 42 with
 | true =>
  rw [map_look (r := some (0, .int .i64 4)) hb (by simp [sg3, sg2, sg1, Instr.findNow, Instr.sameNow, h1])]
  rfl
 | false =>
  cases h2 : k == 43 with
  | true =>
   rw [map_look (r := some (1, .int .i64 5)) hb (by simp [sg3, sg2, sg1, Instr.findNow, Instr.sameNow, h1, h2])]
   rfl
  | false =>
   cases h3 : k == 63 with
   | true =>
    rw [map_look (r := some (2, .int .i64 6)) hb (by simp [sg3, sg2, sg1, Instr.findNow, Instr.sameNow, h1, h2, h3])]
    rfl
   | false =>
    rw [map_look (r := none) hb (by simp [sg3, sg2, sg1, Instr.findNow, Instr.sameNow, h1, h2, h3])]
    rfl
theorem fld9000_4 (W : World) : (Instr.makeMap 95 none).run Try.prog W = .ok (.map (some W.heap.size)) (W.alloc (.map #[] 0)) := rfl
structure TB (w : World) : Prop where
 any : w.heap.size = w.heap.size
theorem TB.below {w W : World} (_h : TB w) (_hb : Below w.heap.size w W) : TB W := ⟨rfl⟩
theorem TB.drewN {w : World} (_h : TB w) (n : Nat) : TB (w.drewN n) := ⟨rfl⟩
theorem TB.drew {w : World} (_h : TB w) : TB w.drew := ⟨rfl⟩
end Go.Proofs.Ythlffghlkggimaa
