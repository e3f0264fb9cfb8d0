/- What the tables of words hold (TB), and contracts of the library at this seat's numbers. -/
import Derived.Test.YtpnkcihiliagcaaDoorShelf
import Derived.Below
import Derived.Lib.SmallJoins
import Derived.WalkKit
import Derived.WalkSmall
import Derived.Deep.Draws
import Derived.Laws.IdiomStrings
import Derived.MapKept
import Derived.KernelRfl
namespace Go.Proofs.YtpnkcihiliagcaaDoor
open Go Go.RowKit

abbrev tt : Bool := true
abbrev ff : Bool := false
theorem setA {α : Type} (l : List α) (i : Nat) (x : α) : l.toArray.setIfInBounds i x = (l.set i x).toArray := List.setIfInBounds_toArray ..
theorem setZ {α : Type} (a b : α) (l : List α) : (a :: l).set 0 b = b :: l := List.set_cons_zero ..
theorem setS {α : Type} (a b : α) (l : List α) (n : Nat) : (a :: l).set (n + 1) b = a :: l.set n b := List.set_cons_succ ..
theorem isEmpty_bne (l : List UInt8) : l.isEmpty = !(l != ([] : List UInt8)) := by cases l <;> rfl
theorem bytesLess_turn : ∀ x y : List UInt8, Op.bytesLess y x = !(Op.bytesLess x y || x == y)
  | [], [] => rfl
  | [], _ :: _ => rfl
  | _ :: _, [] => rfl
  | a :: x, b :: y => by
    have hab : a < b ↔ a.toNat < b.toNat := UInt8.lt_iff_toNat_lt
    have hba : b < a ↔ b.toNat < a.toNat := UInt8.lt_iff_toNat_lt
    have he : a = b ↔ a.toNat = b.toNat := ⟨fun h => by rw [h], fun h => UInt8.toNat_inj.1 h⟩
    have ih := bytesLess_turn x y
    simp only [Op.bytesLess]
    by_cases h1 : a.toNat < b.toNat
    · have e1 : decide (a < b) = true := decide_eq_true (hab.2 h1)
      have e2 : decide (b < a) = false := decide_eq_false (fun h => by have := hba.1 h; omega)
      have e3 : (b == a) = false := beq_eq_false_iff_ne.2 (fun h => by have := he.1 h.symm; omega)
      rw [e1, e2, e3]; simp
    · have e1 : decide (a < b) = false := decide_eq_false (fun h => h1 (hab.1 h))
      by_cases h2 : b.toNat < a.toNat
      · have e2 : decide (b < a) = true := decide_eq_true (hba.2 h2)
        have e3 : (a == b) = false := beq_eq_false_iff_ne.2 (fun h => by have := he.1 h; omega)
        have e4 : (a :: x == b :: y) = false := beq_eq_false_iff_ne.2 (fun h => by injection h with h _; have := he.1 h; omega)
        rw [e1, e2, e3, e4]; rfl
      · have e : a = b := he.2 (by omega)
        subst e
        have e2 : (a :: x == a :: y) = (x == y) := by rw [Bool.eq_iff_iff, beq_iff_eq, beq_iff_eq]; simp
        rw [e1, ih, e2]; simp
theorem binOp_string_gtr2 (t : TypeId) (a b : ByteArray) : binOp .gtr t (.string a) (.string b) = pure (.bool (Op.bytesLess b.toList a.toList)) := by
  rw [bytesLess_turn a.toList b.toList]; simp [binOp, Op.stringOp]
theorem binOp_string_leq2 (t : TypeId) (a b : ByteArray) : binOp .leq t (.string a) (.string b) = pure (.bool (!(Op.bytesLess b.toList a.toList))) := by
  rw [bytesLess_turn a.toList b.toList]; simp [binOp, Op.stringOp]
theorem binOp_string_geq2 (t : TypeId) (a b : ByteArray) : binOp .geq t (.string a) (.string b) = pure (.bool (!(Op.bytesLess a.toList b.toList))) := by
  simp [binOp, Op.stringOp]
theorem fld29_0 (v0 v1 v2 : Value) (w : World) : (Instr.field 29 (.agg #[v0, v1, v2]) 0).run Tryd.prog w = .ok v0 w := by kernel_rfl
theorem fld29_1 (v0 v1 v2 : Value) (w : World) : (Instr.field 29 (.agg #[v0, v1, v2]) 1).run Tryd.prog w = .ok v1 w := by kernel_rfl
theorem fld29_2 (v0 v1 v2 : Value) (w : World) : (Instr.field 29 (.agg #[v0, v1, v2]) 2).run Tryd.prog w = .ok v2 w := by kernel_rfl
theorem fld43_0 (v0 v1 v2 : Value) (w : World) : (Instr.field 43 (.agg #[v0, v1, v2]) 0).run Tryd.prog w = .ok v0 w := by kernel_rfl
theorem fld43_1 (v0 v1 v2 : Value) (w : World) : (Instr.field 43 (.agg #[v0, v1, v2]) 1).run Tryd.prog w = .ok v1 w := by kernel_rfl
theorem fld43_2 (v0 v1 v2 : Value) (w : World) : (Instr.field 43 (.agg #[v0, v1, v2]) 2).run Tryd.prog w = .ok v2 w := by kernel_rfl
theorem fld46_0 (v0 v1 v2 : Value) (w : World) : (Instr.field 46 (.agg #[v0, v1, v2]) 0).run Tryd.prog w = .ok v0 w := by kernel_rfl
theorem fld46_1 (v0 v1 v2 : Value) (w : World) : (Instr.field 46 (.agg #[v0, v1, v2]) 1).run Tryd.prog w = .ok v1 w := by kernel_rfl
theorem fld46_2 (v0 v1 v2 : Value) (w : World) : (Instr.field 46 (.agg #[v0, v1, v2]) 2).run Tryd.prog w = .ok v2 w := by kernel_rfl
theorem ba_size_mk (a : Array UInt8) : (ByteArray.mk a).size = a.size := rfl
theorem lr_below {W W1 : World} (hg : W.grownBy W1 none) : Below W.heap.size W W1 := ⟨hg.os, hg.tape, hg.output, hg.size, fun k hk => hg.block k hk (by simp)⟩
theorem lr_base {x : Option Nat} {n : Nat} (h : ∃ b, x = some b ∧ n ≤ b) : ∀ k, x = some k → n ≤ k := fun k hk => by
  obtain ⟨b, hb, hle⟩ := h
  rw [hb] at hk
  cases hk
  exact hle
theorem hat_set {x y : Option Nat} {W : World} {p : Addr} {u : Value} (h : x = y ∨ ∃ b, x = some b ∧ W.heap.size ≤ b) : x = y ∨ ∃ b, x = some b ∧ (W.setCell p u).heap.size ≤ b := by simpa [World.setCell] using h
def wordsT : List ByteArray := [⟨#[66, 69, 71, 73, 78]⟩, ⟨#[69, 78, 68]⟩, ⟨#[102, 117, 110, 99, 116, 105, 111, 110]⟩, ⟨#[105, 102]⟩, ⟨#[101, 108, 115, 101]⟩, ⟨#[119, 104, 105, 108, 101]⟩, ⟨#[102, 111, 114]⟩, ⟨#[105, 110]⟩, ⟨#[98, 114, 101, 97, 107]⟩, ⟨#[99, 111, 110, 116, 105, 110, 117, 101]⟩, ⟨#[110, 101, 120, 116]⟩, ⟨#[101, 120, 105, 116]⟩, ⟨#[114, 101, 116, 117, 114, 110]⟩, ⟨#[100, 101, 108, 101, 116, 101]⟩, ⟨#[112, 114, 105, 110, 116]⟩, ⟨#[112, 114, 105, 110, 116, 102]⟩]
def builtinsT : List ByteArray := [⟨#[108, 101, 110, 103, 116, 104]⟩, ⟨#[115, 117, 98, 115, 116, 114]⟩, ⟨#[105, 110, 100, 101, 120]⟩, ⟨#[115, 112, 108, 105, 116]⟩, ⟨#[115, 117, 98]⟩, ⟨#[103, 115, 117, 98]⟩, ⟨#[109, 97, 116, 99, 104]⟩, ⟨#[116, 111, 108, 111, 119, 101, 114]⟩, ⟨#[116, 111, 117, 112, 112, 101, 114]⟩, ⟨#[105, 110, 116]⟩, ⟨#[115, 112, 114, 105, 110, 116, 102]⟩, ⟨#[114, 97, 110, 100]⟩, ⟨#[115, 114, 97, 110, 100]⟩]
def bannedT : List ByteArray := [⟨#[103, 101, 116, 108, 105, 110, 101]⟩, ⟨#[115, 121, 115, 116, 101, 109]⟩, ⟨#[99, 108, 111, 115, 101]⟩, ⟨#[102, 102, 108, 117, 115, 104]⟩, ⟨#[115, 121, 115, 116, 105, 109, 101]⟩, ⟨#[115, 116, 114, 102, 116, 105, 109, 101]⟩]
/-- variable g holds a row of texts -/
def LaidS (w : World) (g : Nat) (zs : List ByteArray) : Prop := ∃ b o c, w.cell? ⟨g, 0, none⟩ = some (.slice (some ⟨b, o, none⟩) zs.length c) ∧ zs.length ≤ 1000 ∧ 0 < zs.length ∧ ∀ j, j < zs.length → w.cell? ⟨b, o + j, none⟩ = some (.string (zs.getD j ByteArray.empty))
theorem LaidS.below {w W : World} {g : Nat} {zs : List ByteArray} (h : LaidS w g zs) (hb : Below w.heap.size w W) : LaidS W g zs := by
  obtain ⟨b, o, c, h1, h2, h3, h4⟩ := h
  refine ⟨b, o, c, (hb.cell (World.block_lt_of_cell? _ _ h1)).trans h1, h2, h3, fun j hj => ?_⟩
  have h5 := h4 j hj
  exact (hb.cell (World.block_lt_of_cell? _ _ h5)).trans h5
structure TB (w : World) : Prop where
  most : ∃ m, w.cell? ⟨3, 0, none⟩ = some (.int .i64 m)
  words : LaidS w 0 wordsT
  builtins : LaidS w 1 builtinsT
  banned : LaidS w 2 bannedT
theorem TB.below {w W : World} (h : TB w) (hb : Below w.heap.size w W) : TB W := by
  obtain ⟨m, hm⟩ := h.most
  exact ⟨⟨m, (hb.cell (World.block_lt_of_cell? _ _ hm)).trans hm⟩, h.words.below hb, h.builtins.below hb, h.banned.below hb⟩
theorem TB.drewN {w : World} (h : TB w) (n : Nat) : TB (w.drewN n) := ⟨h.most, h.words, h.builtins, h.banned⟩
theorem TB.drew {w : World} (h : TB w) : TB w.drew := ⟨h.most, h.words, h.builtins, h.banned⟩

end Go.Proofs.YtpnkcihiliagcaaDoor
