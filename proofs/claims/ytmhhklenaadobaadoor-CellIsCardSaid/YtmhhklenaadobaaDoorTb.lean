/- The table of powers of ten is laid (TB); strconv.FormatUint at base 10 returns the number's decimal digits, wherever that table is laid, for every uint64. -/
import Derived.Test.YtmhhklenaadobaaDoorShelf
import Derived.Shelf.Strconv.Itoa3
import Derived.Lib.AppendIntMem
import Derived.Shelf.Strings.SlTrimAscii
import Derived.Lib.SmallJoins
import Derived.WalkSmall
namespace Go.Proofs.YtmhhklenaadobaaDoor
open Go Go.Shelf Go.RowKit Go.Sort Go.Lib

abbrev tt : Bool := true
abbrev ff : Bool := false
theorem setA {α : Type} (l : List α) (i : Nat) (x : α) : l.toArray.setIfInBounds i x = (l.set i x).toArray := List.setIfInBounds_toArray ..
theorem setZ {α : Type} (a b : α) (l : List α) : (a :: l).set 0 b = b :: l := List.set_cons_zero ..
theorem setS {α : Type} (a b : α) (l : List α) (n : Nat) : (a :: l).set (n + 1) b = a :: l.set n b := List.set_cons_succ ..
theorem isEmpty_bne (l : List UInt8) : l.isEmpty = !(l != ([] : List UInt8)) := by cases l <;> rfl
theorem bytesLess_turn : ∀ x y : List UInt8, Op.bytesLess y x = !(Op.bytesLess x y || x == y)
  | [], [] => rfl
  | [], _ :: _ => rfl
  | _ :: _, [] => rfl
  | a :: x, b :: y => by
    have hab : a < b ↔ a.toNat < b.toNat := UInt8.lt_iff_toNat_lt
    have hba : b < a ↔ b.toNat < a.toNat := UInt8.lt_iff_toNat_lt
    have he : a = b ↔ a.toNat = b.toNat := ⟨fun h => by rw [h], fun h => UInt8.toNat_inj.1 h⟩
    have ih := bytesLess_turn x y
    simp only [Op.bytesLess]
    by_cases h1 : a.toNat < b.toNat
    · have e1 : decide (a < b) = true := decide_eq_true (hab.2 h1)
      have e2 : decide (b < a) = false := decide_eq_false (fun h => by have := hba.1 h; omega)
      have e3 : (b == a) = false := beq_eq_false_iff_ne.2 (fun h => by have := he.1 h.symm; omega)
      rw [e1, e2, e3]; simp
    · have e1 : decide (a < b) = false := decide_eq_false (fun h => h1 (hab.1 h))
      by_cases h2 : b.toNat < a.toNat
      · have e2 : decide (b < a) = true := decide_eq_true (hba.2 h2)
        have e3 : (a == b) = false := beq_eq_false_iff_ne.2 (fun h => by have := he.1 h; omega)
        have e4 : (a :: x == b :: y) = false := beq_eq_false_iff_ne.2 (fun h => by injection h with h _; have := he.1 h; omega)
        rw [e1, e2, e3, e4]; rfl
      · have e : a = b := he.2 (by omega)
        subst e
        have e2 : (a :: x == a :: y) = (x == y) := by rw [Bool.eq_iff_iff, beq_iff_eq, beq_iff_eq]; simp
        rw [e1, ih, e2]; simp
theorem binOp_string_gtr2 (t : TypeId) (a b : ByteArray) : binOp .gtr t (.string a) (.string b) = pure (.bool (Op.bytesLess b.toList a.toList)) := by
  rw [bytesLess_turn a.toList b.toList]; simp [binOp, Op.stringOp]
theorem binOp_string_leq2 (t : TypeId) (a b : ByteArray) : binOp .leq t (.string a) (.string b) = pure (.bool (!(Op.bytesLess b.toList a.toList))) := by
  rw [bytesLess_turn a.toList b.toList]; simp [binOp, Op.stringOp]
theorem binOp_string_geq2 (t : TypeId) (a b : ByteArray) : binOp .geq t (.string a) (.string b) = pure (.bool (!(Op.bytesLess a.toList b.toList))) := by
  simp [binOp, Op.stringOp]
theorem fld27_0 (v0 v1 v2 : Value) (w : World) : (Instr.field 27 (.agg #[v0, v1, v2]) 0).run Tryd.prog w = .ok v0 w := by kernel_rfl
theorem fld27_1 (v0 v1 v2 : Value) (w : World) : (Instr.field 27 (.agg #[v0, v1, v2]) 1).run Tryd.prog w = .ok v1 w := by kernel_rfl
theorem fld27_2 (v0 v1 v2 : Value) (w : World) : (Instr.field 27 (.agg #[v0, v1, v2]) 2).run Tryd.prog w = .ok v2 w := by kernel_rfl
theorem fld38_0 (v0 v1 v2 : Value) (w : World) : (Instr.field 38 (.agg #[v0, v1, v2]) 0).run Tryd.prog w = .ok v0 w := by kernel_rfl
theorem fld38_1 (v0 v1 v2 : Value) (w : World) : (Instr.field 38 (.agg #[v0, v1, v2]) 1).run Tryd.prog w = .ok v1 w := by kernel_rfl
theorem fld38_2 (v0 v1 v2 : Value) (w : World) : (Instr.field 38 (.agg #[v0, v1, v2]) 2).run Tryd.prog w = .ok v2 w := by kernel_rfl
theorem ba_size_mk (a : Array UInt8) : (ByteArray.mk a).size = a.size := rfl
structure TB (w : World) : Prop where
  pow : Lib.TabIs Tryd.prog w "internal/strconv.uint64pow10" .u64 Lib.pow10Tab
theorem tb_glob : Tryd.prog.globalNamed "internal/strconv.uint64pow10" = some 1 := by kernel_rfl
theorem TB.below {w W : World} (h : TB w) (hb : Below w.heap.size w W) : TB W :=
  ⟨Joins.tab_stays tb_glob h.pow hb (Nat.le_refl _)⟩
theorem TB.drewN {w : World} (h : TB w) (n : Nat) : TB (w.drewN n) :=
  h.below ⟨rfl, rfl, rfl, Nat.le_refl _, fun _ _ => rfl⟩
theorem TB.drew {w : World} (h : TB w) : TB w.drew := h.below ⟨rfl, rfl, rfl, Nat.le_refl _, fun _ _ => rfl⟩

set_option maxHeartbeats 6400000 in
set_option maxRecDepth 100000 in
theorem internal_FormatUint (u : Nat) (hu64 : u < 18446744073709551616) (w : World) (hT : TB w) :
    Calls Tryd.prog 47 #[.int .u64 u, .int .i64 10] w fun e w' => e = .returned (.string ⟨(Lib.decDigits u).toArray⟩) ∧ Below w.heap.size w w' := by
  have htab := hT.pow
  clear hT
  by_cases hs : u < 100
  · have hsb : decide ((u : Int) < 100) = true := decide_eq_true (by omega)
    go_enter Tryd.func47, Tryd.ntmps47
    go_wp2_with (go_at_call 61; refine (Tryd.internal_strconv_small u hs _).mono ?_; rintro e w' ⟨rfl, rfl⟩)
    go_ret
    exact ⟨rfl, Below.refl _ _⟩
  · have hu1 : 1 ≤ u := by omega
    have hnd20 : Lib.nDigits u ≤ 20 := by have := Lib.numDigits_eq u hu1 hu64; split at this <;> omega
    have hb3 : Lib.nDigits u ≤ 24 := by omega
    have hal : Tryd.prog.arrayLen 83 = 24 := by kernel_rfl
    have hsl1 : ∀ W, (Instr.sliceAt 83 (.pointer (some ⟨w.heap.size, 0, none⟩)) none (some (.int .i64 (Lib.nDigits u : Int))) none).run Tryd.prog W = .ok (.slice (some ⟨w.heap.size, 0, none⟩) (Lib.nDigits u) 24) W := fun W => by
      rw [run_sliceAt_array_h W 83 ⟨w.heap.size, 0, none⟩ (by kernel_rfl) .i64 (Lib.nDigits u : Int) (by omega) (by rw [hal]; omega)]
      rw [hal]
      rfl
    have hH0 : Holds (fun (b : UInt8) => Value.int .u8 (b.toNat : Int)) (w.alloc (.cells Lib.zeros24 83)) w.heap.size 0 (Array.replicate (Lib.nDigits u) 0) := fun j hj => by
      have hj' : j < Lib.nDigits u := by simpa using hj
      refine ⟨?_, World.frozen?_alloc_new _ _ _ _⟩
      rw [World.cell?_alloc_new, zeros24_at _ (by omega), getElem!_pos _ j hj]
      simp
    have hfmt := Tryd.internal_strconv_formatBase10 w.heap.size 0 24 u (Array.replicate (Lib.nDigits u) 0) (w.alloc (.cells Lib.zeros24 83)) hH0 (by rw [Array.size_replicate]; exact Lib.lt_pow_nDigits u) hu64 (by rw [Array.size_replicate]; omega)
    rw [Array.size_replicate] at hfmt
    have HH0 := Lib.hid hH0
    clear hH0 hal
    go_enter Tryd.func47, Tryd.ntmps47
    go_wp2_with (first
      | (go_at_call 62; refine (Tryd.internal_strconv_numDigits u hu1 hu64 _ (Lib.tabIs_alloc htab _)).mono ?_; rintro e w' ⟨rfl, rfl⟩))
    go_at_call 63
    refine hfmt.mono ?_
    rintro e w' ⟨rfl, k, v', dk, rfl, hF⟩
    have hcv : (convert 86 9 (.slice (some ⟨w.heap.size, 0, none⟩) (Lib.nDigits u) 24)).run Tryd.prog ((putRow (fun (b : UInt8) => Value.int .u8 (b.toNat : Int)) (w.alloc (.cells Lib.zeros24 83)) w.heap.size 0 dk).drewN k) = .ok (.string ⟨(Lib.decDigits u).toArray⟩) ((putRow (fun (b : UInt8) => Value.int .u8 (b.toNat : Int)) (w.alloc (.cells Lib.zeros24 83)) w.heap.size 0 dk).drewN k) := by
      have h := run_convert_bytes_back (P := Tryd.prog) ((putRow (fun (b : UInt8) => Value.int .u8 (b.toNat : Int)) (w.alloc (.cells Lib.zeros24 83)) w.heap.size 0 dk).drewN k) 86 9 5 ⟨w.heap.size, 0, none⟩ 24 (Lib.decDigits u) Tryd.underlying86 Tryd.underlying5 Tryd.underlying9 (fun j hj => by
        rw [Lib.row_is_numeral hF j hj, Lib.add_plain, World.cell?_drewN]
        exact cell?_putRow (fun (b : UInt8) => Value.int .u8 (b.toNat : Int)) _ w.heap.size 0 _ dk HH0.out (by rw [hF.size, Array.size_replicate]) j (by rw [hF.size]; rw [Lib.decDigits_length] at hj; exact hj))
      rw [Lib.decDigits_length] at h
      exact h
    go_wp2
    go_ret
    refine ⟨rfl, ?_⟩
    have e : ∃ os, (putRow (fun (b : UInt8) => Value.int .u8 (b.toNat : Int)) (w.alloc (.cells Lib.zeros24 83)) w.heap.size 0 dk).drewN k = grow (w.drewN k) os := by
      rw [alloc_eq_grow]
      obtain ⟨os', _, e⟩ := putRow_grow_new (fun (b : UInt8) => Value.int .u8 (b.toNat : Int)) w #[.cells Lib.zeros24 83] w.heap.size 0 dk (Nat.le_refl _)
      exact ⟨os', by rw [e]; rfl⟩
    obtain ⟨os, e⟩ := e
    rw [e]
    exact Lib.below_grow _ _ (Nat.le_refl _) _ _

set_option maxRecDepth 100000 in
theorem strconv_FormatUint_any (u : Nat) (hu64 : u < 18446744073709551616) (w : World) (hT : TB w) :
    Calls Tryd.prog 36 #[.int .u64 u, .int .i64 10] w fun e w' => e = .returned (.string ⟨(Lib.decDigits u).toArray⟩) ∧ Below w.heap.size w w' := by
  go_enter Tryd.func36, Tryd.ntmps36
  go_wp2_with (go_at_call 47; refine (internal_FormatUint u hu64 _ hT).mono ?_; rintro e w' ⟨rfl, hb⟩)
  go_ret
  exact ⟨rfl, hb⟩

end Go.Proofs.YtmhhklenaadobaaDoor
