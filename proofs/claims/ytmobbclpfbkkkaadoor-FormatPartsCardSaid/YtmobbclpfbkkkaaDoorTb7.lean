/- The tables are laid (TB); strconv.FormatUint and FormatInt at base 10, FormatInt at base 16, strings.Repeat, strings.Contains of one byte: what they return. -/
import Derived.Test.YtmobbclpfbkkkaaDoorShelf
import Derived.Shelf.Strconv.Itoa3
import Derived.Shelf.Strings.Repeat
import Derived.Shelf.Strings.BuilderK
import Derived.Laws.BitsAllLaws
import Derived.Lib.AppendIntMem
import Derived.Shelf.Strings.SlTrimAscii
import Derived.Lib.SmallJoins
import Derived.WalkSmall
namespace Go.Proofs.YtmobbclpfbkkkaaDoor
open Go Go.Shelf Go.RowKit Go.Sort Go.Lib

abbrev tt : Bool := true
abbrev ff : Bool := false
theorem setA {α : Type} (l : List α) (i : Nat) (x : α) : l.toArray.setIfInBounds i x = (l.set i x).toArray := List.setIfInBounds_toArray ..
theorem setZ {α : Type} (a b : α) (l : List α) : (a :: l).set 0 b = b :: l := List.set_cons_zero ..
theorem setS {α : Type} (a b : α) (l : List α) (n : Nat) : (a :: l).set (n + 1) b = a :: l.set n b := List.set_cons_succ ..
theorem isEmpty_bne (l : List UInt8) : l.isEmpty = !(l != ([] : List UInt8)) := by cases l <;> rfl
theorem bytesLess_turn : ∀ x y : List UInt8, Op.bytesLess y x = !(Op.bytesLess x y || x == y)
  | [], [] => rfl
  | [], _ :: _ => rfl
  | _ :: _, [] => rfl
  | a :: x, b :: y => by
    have hab : a < b ↔ a.toNat < b.toNat := UInt8.lt_iff_toNat_lt
    have hba : b < a ↔ b.toNat < a.toNat := UInt8.lt_iff_toNat_lt
    have he : a = b ↔ a.toNat = b.toNat := ⟨fun h => by rw [h], fun h => UInt8.toNat_inj.1 h⟩
    have ih := bytesLess_turn x y
    simp only [Op.bytesLess]
    by_cases h1 : a.toNat < b.toNat
    · have e1 : decide (a < b) = true := decide_eq_true (hab.2 h1)
      have e2 : decide (b < a) = false := decide_eq_false (fun h => by have := hba.1 h; omega)
      have e3 : (b == a) = false := beq_eq_false_iff_ne.2 (fun h => by have := he.1 h.symm; omega)
      rw [e1, e2, e3]; simp
    · have e1 : decide (a < b) = false := decide_eq_false (fun h => h1 (hab.1 h))
      by_cases h2 : b.toNat < a.toNat
      · have e2 : decide (b < a) = true := decide_eq_true (hba.2 h2)
        have e3 : (a == b) = false := beq_eq_false_iff_ne.2 (fun h => by have := he.1 h; omega)
        have e4 : (a :: x == b :: y) = false := beq_eq_false_iff_ne.2 (fun h => by injection h with h _; have := he.1 h; omega)
        rw [e1, e2, e3, e4]; rfl
      · have e : a = b := he.2 (by omega)
        subst e
        have e2 : (a :: x == a :: y) = (x == y) := by rw [Bool.eq_iff_iff, beq_iff_eq, beq_iff_eq]; simp
        rw [e1, ih, e2]; simp
theorem binOp_string_gtr2 (t : TypeId) (a b : ByteArray) : binOp .gtr t (.string a) (.string b) = pure (.bool (Op.bytesLess b.toList a.toList)) := by
  rw [bytesLess_turn a.toList b.toList]; simp [binOp, Op.stringOp]
theorem binOp_string_leq2 (t : TypeId) (a b : ByteArray) : binOp .leq t (.string a) (.string b) = pure (.bool (!(Op.bytesLess b.toList a.toList))) := by
  rw [bytesLess_turn a.toList b.toList]; simp [binOp, Op.stringOp]
theorem binOp_string_geq2 (t : TypeId) (a b : ByteArray) : binOp .geq t (.string a) (.string b) = pure (.bool (!(Op.bytesLess a.toList b.toList))) := by
  simp [binOp, Op.stringOp]
theorem fld32_0 (v0 v1 v2 : Value) (w : World) : (Instr.field 32 (.agg #[v0, v1, v2]) 0).run Tryd.prog w = .ok v0 w := by kernel_rfl
theorem fld32_1 (v0 v1 v2 : Value) (w : World) : (Instr.field 32 (.agg #[v0, v1, v2]) 1).run Tryd.prog w = .ok v1 w := by kernel_rfl
theorem fld32_2 (v0 v1 v2 : Value) (w : World) : (Instr.field 32 (.agg #[v0, v1, v2]) 2).run Tryd.prog w = .ok v2 w := by kernel_rfl
theorem fld45_0 (v0 v1 : Value) (w : World) : (Instr.field 45 (.agg #[v0, v1]) 0).run Tryd.prog w = .ok v0 w := by kernel_rfl
theorem fld45_1 (v0 v1 : Value) (w : World) : (Instr.field 45 (.agg #[v0, v1]) 1).run Tryd.prog w = .ok v1 w := by kernel_rfl
theorem fld54_0 (v0 v1 v2 v3 v4 v5 v6 : Value) (w : World) : (Instr.field 54 (.agg #[v0, v1, v2, v3, v4, v5, v6]) 0).run Tryd.prog w = .ok v0 w := by kernel_rfl
theorem fld54_1 (v0 v1 v2 v3 v4 v5 v6 : Value) (w : World) : (Instr.field 54 (.agg #[v0, v1, v2, v3, v4, v5, v6]) 1).run Tryd.prog w = .ok v1 w := by kernel_rfl
theorem fld54_2 (v0 v1 v2 v3 v4 v5 v6 : Value) (w : World) : (Instr.field 54 (.agg #[v0, v1, v2, v3, v4, v5, v6]) 2).run Tryd.prog w = .ok v2 w := by kernel_rfl
theorem fld54_3 (v0 v1 v2 v3 v4 v5 v6 : Value) (w : World) : (Instr.field 54 (.agg #[v0, v1, v2, v3, v4, v5, v6]) 3).run Tryd.prog w = .ok v3 w := by kernel_rfl
theorem fld54_4 (v0 v1 v2 v3 v4 v5 v6 : Value) (w : World) : (Instr.field 54 (.agg #[v0, v1, v2, v3, v4, v5, v6]) 4).run Tryd.prog w = .ok v4 w := by kernel_rfl
theorem fld54_5 (v0 v1 v2 v3 v4 v5 v6 : Value) (w : World) : (Instr.field 54 (.agg #[v0, v1, v2, v3, v4, v5, v6]) 5).run Tryd.prog w = .ok v5 w := by kernel_rfl
theorem fld54_6 (v0 v1 v2 v3 v4 v5 v6 : Value) (w : World) : (Instr.field 54 (.agg #[v0, v1, v2, v3, v4, v5, v6]) 6).run Tryd.prog w = .ok v6 w := by kernel_rfl
theorem ba_size_mk (a : Array UInt8) : (ByteArray.mk a).size = a.size := rfl
def debTab : List Int := [0, 1, 56, 2, 57, 49, 28, 3, 61, 58, 42, 50, 38, 29, 17, 4, 62, 47, 59, 36, 45, 43, 51, 22, 53, 39, 33, 30, 24, 18, 12, 5, 63, 55, 48, 27, 60, 41, 37, 16, 46, 35, 44, 21, 52, 32, 23, 11, 54, 26, 40, 15, 34, 20, 31, 10, 25, 14, 19, 9, 13, 8, 7, 6]
structure TB (w : World) : Prop where
  pow : Lib.TabIs Tryd.prog w "internal/strconv.uint64pow10" .u64 Lib.pow10Tab
  deb : Lib.TabIs Tryd.prog w "math/bits.deBruijn64tab" .u8 debTab
theorem tb_glob : Tryd.prog.globalNamed "internal/strconv.uint64pow10" = some 1 := by kernel_rfl
theorem tb_glob2 : Tryd.prog.globalNamed "math/bits.deBruijn64tab" = some 3 := by kernel_rfl
theorem TB.below {w W : World} (h : TB w) (hb : Below w.heap.size w W) : TB W :=
  ⟨Joins.tab_stays tb_glob h.pow hb (Nat.le_refl _), Joins.tab_stays tb_glob2 h.deb hb (Nat.le_refl _)⟩
theorem TB.drewN {w : World} (h : TB w) (n : Nat) : TB (w.drewN n) :=
  h.below ⟨rfl, rfl, rfl, Nat.le_refl _, fun _ _ => rfl⟩
theorem TB.drew {w : World} (h : TB w) : TB w.drew := h.below ⟨rfl, rfl, rfl, Nat.le_refl _, fun _ _ => rfl⟩

set_option maxHeartbeats 6400000 in
set_option maxRecDepth 100000 in
theorem internal_FormatUint (u : Nat) (hu64 : u < 18446744073709551616) (w : World) (hT : TB w) :
    Calls Tryd.prog 49 #[.int .u64 u, .int .i64 10] w fun e w' => e = .returned (.string ⟨(Lib.decDigits u).toArray⟩) ∧ Below w.heap.size w w' := by
  have htab := hT.pow
  clear hT
  by_cases hs : u < 100
  · have hsb : decide ((u : Int) < 100) = true := decide_eq_true (by omega)
    go_enter Tryd.func49, Tryd.ntmps49
    go_wp2_with (go_at_call 60; refine (Tryd.internal_strconv_small u hs _).mono ?_; rintro e w' ⟨rfl, rfl⟩)
    go_ret
    exact ⟨rfl, Below.refl _ _⟩
  · have hu1 : 1 ≤ u := by omega
    have hnd20 : Lib.nDigits u ≤ 20 := by have := Lib.numDigits_eq u hu1 hu64; split at this <;> omega
    have hb3 : Lib.nDigits u ≤ 24 := by omega
    have hal : Tryd.prog.arrayLen 98 = 24 := by kernel_rfl
    have hsl1 : ∀ W, (Instr.sliceAt 98 (.pointer (some ⟨w.heap.size, 0, none⟩)) none (some (.int .i64 (Lib.nDigits u : Int))) none).run Tryd.prog W = .ok (.slice (some ⟨w.heap.size, 0, none⟩) (Lib.nDigits u) 24) W := fun W => by
      rw [run_sliceAt_array_h W 98 ⟨w.heap.size, 0, none⟩ (by kernel_rfl) .i64 (Lib.nDigits u : Int) (by omega) (by rw [hal]; omega)]
      rw [hal]
      rfl
    have hH0 : Holds (fun (b : UInt8) => Value.int .u8 (b.toNat : Int)) (w.alloc (.cells Lib.zeros24 98)) w.heap.size 0 (Array.replicate (Lib.nDigits u) 0) := fun j hj => by
      have hj' : j < Lib.nDigits u := by simpa using hj
      refine ⟨?_, World.frozen?_alloc_new _ _ _ _⟩
      rw [World.cell?_alloc_new, zeros24_at _ (by omega), getElem!_pos _ j hj]
      simp
    have hfmt := Tryd.internal_strconv_formatBase10 w.heap.size 0 24 u (Array.replicate (Lib.nDigits u) 0) (w.alloc (.cells Lib.zeros24 98)) hH0 (by rw [Array.size_replicate]; exact Lib.lt_pow_nDigits u) hu64 (by rw [Array.size_replicate]; omega)
    rw [Array.size_replicate] at hfmt
    have HH0 := Lib.hid hH0
    clear hH0 hal
    go_enter Tryd.func49, Tryd.ntmps49
    go_wp2_with (first
      | (go_at_call 61; refine (Tryd.internal_strconv_numDigits u hu1 hu64 _ (Lib.tabIs_alloc htab _)).mono ?_; rintro e w' ⟨rfl, rfl⟩))
    go_at_call 62
    refine hfmt.mono ?_
    rintro e w' ⟨rfl, k, v', dk, rfl, hF⟩
    have hcv : (convert 36 9 (.slice (some ⟨w.heap.size, 0, none⟩) (Lib.nDigits u) 24)).run Tryd.prog ((putRow (fun (b : UInt8) => Value.int .u8 (b.toNat : Int)) (w.alloc (.cells Lib.zeros24 98)) w.heap.size 0 dk).drewN k) = .ok (.string ⟨(Lib.decDigits u).toArray⟩) ((putRow (fun (b : UInt8) => Value.int .u8 (b.toNat : Int)) (w.alloc (.cells Lib.zeros24 98)) w.heap.size 0 dk).drewN k) := by
      have h := run_convert_bytes_back (P := Tryd.prog) ((putRow (fun (b : UInt8) => Value.int .u8 (b.toNat : Int)) (w.alloc (.cells Lib.zeros24 98)) w.heap.size 0 dk).drewN k) 36 9 5 ⟨w.heap.size, 0, none⟩ 24 (Lib.decDigits u) Tryd.underlying36 Tryd.underlying5 Tryd.underlying9 (fun j hj => by
        rw [Lib.row_is_numeral hF j hj, Lib.add_plain, World.cell?_drewN]
        exact cell?_putRow (fun (b : UInt8) => Value.int .u8 (b.toNat : Int)) _ w.heap.size 0 _ dk HH0.out (by rw [hF.size, Array.size_replicate]) j (by rw [hF.size]; rw [Lib.decDigits_length] at hj; exact hj))
      rw [Lib.decDigits_length] at h
      exact h
    go_wp2
    go_ret
    refine ⟨rfl, ?_⟩
    have e : ∃ os, (putRow (fun (b : UInt8) => Value.int .u8 (b.toNat : Int)) (w.alloc (.cells Lib.zeros24 98)) w.heap.size 0 dk).drewN k = grow (w.drewN k) os := by
      rw [alloc_eq_grow]
      obtain ⟨os', _, e⟩ := putRow_grow_new (fun (b : UInt8) => Value.int .u8 (b.toNat : Int)) w #[.cells Lib.zeros24 98] w.heap.size 0 dk (Nat.le_refl _)
      exact ⟨os', by rw [e]; rfl⟩
    obtain ⟨os, e⟩ := e
    rw [e]
    exact Lib.below_grow _ _ (Nat.le_refl _) _ _

set_option maxRecDepth 100000 in
theorem strconv_FormatUint_any (u : Nat) (hu64 : u < 18446744073709551616) (w : World) (hT : TB w) :
    Calls Tryd.prog 40 #[.int .u64 u, .int .i64 10] w fun e w' => e = .returned (.string ⟨(Lib.decDigits u).toArray⟩) ∧ Below w.heap.size w w' := by
  go_enter Tryd.func40, Tryd.ntmps40
  go_wp2_with (go_at_call 49; refine (internal_FormatUint u hu64 _ hT).mono ?_; rintro e w' ⟨rfl, hb⟩)
  go_ret
  exact ⟨rfl, hb⟩

def hexD (d : Nat) : UInt8 := if d < 10 then UInt8.ofNat (48 + d) else UInt8.ofNat (87 + d)
def hexS (n : Nat) : List UInt8 := if n < 16 then [hexD n] else hexS (n / 16) ++ [hexD (n % 16)]
termination_by n
decreasing_by omega
theorem hexS_pos (n : Nat) : 0 < (hexS n).length := by
  rw [hexS]
  split <;> simp
theorem hexS_len (n : Nat) (k : Nat) (h : n < 16 ^ k) (hk : 0 < k) : (hexS n).length ≤ k := by
  induction k generalizing n with
  | zero => omega
  | succ k ih =>
    rw [hexS]
    split
    · simp
    · rename_i h16
      have hk0 : 0 < k := by
        rcases Nat.eq_zero_or_pos k with rfl | h'
        · simp at h; omega
        · exact h'
      have := ih (n / 16) (by rw [Nat.pow_succ] at h; omega) hk0
      simp only [List.length_append, List.length_singleton]; omega

/-! strings.Builder: the library's contracts at this program's numbers -/
def lbRen : Go.Shelf.Ren := ⟨fun | 167 => 18 | n => Tryd.lays105_ren.f n, Tryd.lays105_ren.t, Tryd.lays105_ren.g⟩
theorem lb166 : Lays.n166 Tryd.prog Tryd.lays105_ren := { Tryd.lays105 with }
theorem lb169 : Lays.n169 Tryd.prog Tryd.lays105_ren := { Tryd.lays105 with }
theorem lb170 : Lays.n170 Tryd.prog Tryd.lays105_ren := { Tryd.lays105 with }
theorem lb167 : Lays.n167 Tryd.prog lbRen := { Tryd.lays105 with
  f167 := Tryd.func18.trans (congrArg some (by kernel_rfl))
  f240 := Tryd.func28.trans (congrArg some (by kernel_rfl))
  f276 := Tryd.func42.trans (congrArg some (by kernel_rfl)) }
set_option maxRecDepth 100000 in
theorem lbX : Builder.Extra Tryd.prog lbRen := { Tryd.Builder_Extra_105 with }
theorem builder_writeByte (B b : Nat) (bs : List Value) (c : Int) (w : World) (h : Lib.IsBuilderF 48 5 B b bs w) (hlen : bs.length + 1 ≤ 140737488355328) (hBw : B ≤ w.heap.size) :
    Calls Tryd.prog 18 #[.pointer (some ⟨b, 0, none⟩), .int .u8 c] w fun e w' => e = .returned .nilIface ∧ (Lib.BuilderAtF 48 5 B b (.pointer (some ⟨b, 0, none⟩)) (bs ++ [.int .u8 c]) w' ∧ Below B w w' ∧ Lib.OthersKept 5 (some b) w w') :=
  Any.Builder_WriteByte_k lb167 lbX B b bs c w h hlen hBw
theorem builder_writeString (B b : Nat) (bs : List Value) (s : ByteArray) (w : World) (h : Lib.IsBuilderF 48 5 B b bs w) (hlen : bs.length + s.size ≤ 140737488355328) (hBw : B ≤ w.heap.size) :
    Calls Tryd.prog 20 #[.pointer (some ⟨b, 0, none⟩), .string s] w fun e w' => e = .returned (.tuple #[.int .i64 s.size, .nilIface]) ∧ (Lib.BuilderAtF 48 5 B b (.pointer (some ⟨b, 0, none⟩)) (bs ++ Lib.strCells s) w' ∧ Below B w w' ∧ Lib.OthersKept 5 (some b) w w') :=
  Any.Builder_WriteString_k lb166 Tryd.Builder_Extra_105 B b bs s w h hlen hBw

theorem strings_Repeat_any (s : ByteArray) (c : Nat) (w : World) (hc : c ≤ 1000000) (hs : s.size ≤ 1000000) :
    Calls Tryd.prog 45 #[.string s, .int .i64 c] w fun e w' => e = .returned (.string ⟨(Lib.repeatL s.data.toList c).toArray⟩) ∧ Below w.heap.size w w' :=
  Tryd.strings_Repeat s c w (by omega) (by
    have : s.size * c ≤ 1000000 * 1000000 := Nat.mul_le_mul hs hc
    omega)
theorem index_cases (l : List UInt8) (c : UInt8) : (Lib.indexByte l c = -1 ∧ l.contains c = false) ∨ (0 ≤ Lib.indexByte l c ∧ l.contains c = true) := by
  induction l with
  | nil => exact Or.inl ⟨rfl, rfl⟩
  | cons b l ih =>
    rw [Lib.indexByte, List.contains_cons]
    by_cases h : b = c
    · subst h
      exact Or.inr ⟨by simp, by simp⟩
    · have h1 : (b == c) = false := by simpa using h
      have h2 : (c == b) = false := by simpa using fun e => h e.symm
      rw [h1, h2]
      rcases ih with ⟨e, f⟩ | ⟨e, f⟩
      · rw [e, f]; exact Or.inl ⟨rfl, rfl⟩
      · have hn : ¬ Lib.indexByte l c = -1 := by omega
        have hn' : (Lib.indexByte l c == -1) = false := by simpa using hn
        rw [f, hn']
        exact Or.inr ⟨by simp; omega, rfl⟩
theorem contains_index (l : List UInt8) (c : UInt8) : decide (0 ≤ Lib.indexByte l c) = l.contains c := by
  rcases index_cases l c with ⟨e, f⟩ | ⟨e, f⟩
  · rw [e, f]; rfl
  · rw [f]; exact decide_eq_true e
theorem strings_Contains_byte (s c : ByteArray) (w : World) (h : c.size = 1) :
    Calls Tryd.prog 30 #[.string s, .string c] w fun e w' => e = .returned (.bool (s.data.toList.contains (c.data.toList.headD 0))) ∧ w' = w := by
  obtain ⟨⟨l⟩⟩ := c
  match l, h with
  | [x], _ =>
    refine (Tryd.strings_Contains_one s x w).mono fun e w' ⟨h1, h2⟩ => ⟨?_, h2⟩
    rw [h1, contains_index]
    rfl
theorem pow2_16 (w : World) : Calls Tryd.prog 80 #[.int .i64 16] w fun e w' => e = .returned (.bool true) ∧ w' = w := by
  have hb : bits .and .i64 16 15 = 0 := by decide
  go_enter Tryd.func80, Tryd.ntmps80
  go_wp2
  go_ret
  exact ⟨rfl, rfl⟩
theorem tz64_16 (w : World) (hT : TB w) : Calls Tryd.prog 89 #[.int .u64 16] w fun e w' => e = .returned (.int .i64 4) ∧ w' = w := by
  have hc := hT.deb.cell tb_glob2 15 (by decide)
  have hv : debTab.getD 15 0 = 4 := rfl
  rw [hv] at hc
  clear hT hv
  have e1 : IntKind.u64.wrap (-16) = 18446744073709551600 := by decide
  have e2 : bits .and .u64 16 18446744073709551600 = 16 := by decide
  have e3 : IntKind.u64.wrap (16 * 285870213051353865) = 4573923408821661840 := by decide
  have e4 : (4573923408821661840 : Int) / 288230376151711744 = 15 := by decide
  go_enter Tryd.func89, Tryd.ntmps89
  go_wp2
  go_ret
  exact ⟨rfl, rfl⟩
theorem tz_16 (w : World) (hT : TB w) : Calls Tryd.prog 81 #[.int .u64 16] w fun e w' => e = .returned (.int .i64 4) ∧ w' = w := by
  go_enter Tryd.func81, Tryd.ntmps81
  go_wp2_with (go_at_call 89; refine (tz64_16 _ hT).mono ?_; rintro e w' ⟨rfl, rfl⟩)
  go_ret
  exact ⟨rfl, rfl⟩
structure HexInv (u v k : Nat) (D : List UInt8) (cur : Array Value) : Prop where
  val : hexS u = hexS v ++ D
  len : D.length + k = 64
  size : cur.size = 65
  cells : ∀ j d, D[j]? = some d → cur[k + 1 + j]? = some (.int .u8 (d.toNat : Int))
theorem HexInv.low {u v k : Nat} {D : List UInt8} {cur : Array Value} (h : HexInv u v k D cur) (hu : u < 9223372036854775808) : 49 ≤ k ∧ k ≤ 64 := by
  have h1 := hexS_len u 16 (by omega) (by omega)
  have h2 := hexS_pos v
  rw [h.val, List.length_append] at h1
  have := h.len
  omega
theorem HexInv.put {u v k : Nat} {D : List UInt8} {cur : Array Value} (h : HexInv u v k D cur) (hk : k ≤ 64) (c : UInt8) : ∀ j d, (c :: D)[j]? = some d → (cur.setIfInBounds k (.int .u8 (c.toNat : Int)))[k + j]? = some (.int .u8 (d.toNat : Int)) := by
  intro j d hj
  rw [Array.getElem?_setIfInBounds]
  cases j with
  | zero =>
    have : c = d := by simpa using hj
    subst this
    rw [if_pos (by omega), if_pos (by rw [h.size]; omega)]
  | succ j =>
    rw [if_neg (by omega)]
    have := h.cells j d (by simpa using hj)
    rw [show k + (j + 1) = k + 1 + j by omega]
    exact this
theorem HexInv.step {u v k : Nat} {D : List UInt8} {cur : Array Value} (h : HexInv u v (k + 1) D cur) (hv : 16 ≤ v) (hk : k + 1 ≤ 64) : HexInv u (v / 16) k (hexD (v % 16) :: D) (cur.setIfInBounds (k + 1) (.int .u8 ((hexD (v % 16)).toNat : Int))) where
  val := by
    rw [h.val, hexS, if_neg (by omega)]
    simp
  len := by have := h.len; rw [List.length_cons]; omega
  size := by rw [Array.size_setIfInBounds]; exact h.size
  cells := h.put hk (hexD (v % 16))
def hexDigits : ByteArray := ⟨#[48, 49, 50, 51, 52, 53, 54, 55, 56, 57, 97, 98, 99, 100, 101, 102, 103, 104, 105, 106, 107, 108, 109, 110, 111, 112, 113, 114, 115, 116, 117, 118, 119, 120, 121, 122]⟩
theorem idx_hex (t : TypeId) (ht : Tryd.prog.underlying t = some .string) (k : IntKind) (i : Nat) (hi : i < 16) (w : World) :
    (Instr.index t (.string hexDigits) (.int k (i : Int))).run Tryd.prog w = .ok (.int .u8 ((hexD i).toNat : Int)) w := by
  rw [run_index_string w t hexDigits k _ ht, dif_pos ⟨by omega, by show (i : Int) < 36; omega⟩]
  have e : ((i : Int)).toNat = i := by omega
  simp only [e]
  obtain h | h | h | h | h | h | h | h | h | h | h | h | h | h | h | h : i = 0 ∨ i = 1 ∨ i = 2 ∨ i = 3 ∨ i = 4 ∨ i = 5 ∨ i = 6 ∨ i = 7 ∨ i = 8 ∨ i = 9 ∨ i = 10 ∨ i = 11 ∨ i = 12 ∨ i = 13 ∨ i = 14 ∨ i = 15 := by omega
  all_goals (subst h; rfl)
theorem and15 (v : Nat) (h : v < 9223372036854775808) : bits .and .u64 (v : Int) 15 = ((v % 16 : Nat) : Int) := by
  rw [show (15 : Int) = ((15 : Nat) : Int) from rfl, u64_and_nat _ _ (by omega) (by omega)]
  congr 1
  exact Nat.and_two_pow_sub_one_eq_mod v 4
theorem heap_set {w : World} {g : Nat} {t : TypeId} {cs : Array Value} (h : w.heap[g]? = some (.cells cs t (0, 0))) (i : Nat) (u : Value) : (w.setCell ⟨g, i, none⟩ u).heap[g]? = some (.cells (cs.setIfInBounds i u) t (0, 0)) := by
  simp [World.setCell, Array.getElem?_modify, h]
set_option maxHeartbeats 6400000 in
set_option maxRecDepth 100000 in
theorem formatBits_hex (u : Nat) (hu : u < 9223372036854775808) (w : World) (hT : TB w) :
    Calls Tryd.prog 63 #[.slice none 0 0, .int .u64 u, .int .i64 16, .bool false, .bool false] w fun e w' => e = .returned (.tuple #[.slice none 0 0, .string ⟨(hexS u).toArray⟩]) ∧ Below w.heap.size w w' := by
  have hst : HexInv u u 64 [] Tryd.zeroCells114 := ⟨by simp, rfl, by kernel_rfl, fun j d h => by simp at h⟩
  go_enter Tryd.func63, Tryd.ntmps63
  go_name_bytes PM hPM
  clear hPM
  go_name_bytes SM hSM
  have eSM : SM = hexDigits := hSM.symm
  subst eSM
  clear hSM
  go_wp2_with (first
    | (go_at_call 80; refine (pow2_16 _).mono ?_; rintro e w' ⟨rfl, rfl⟩)
    | (go_at_call 81; refine (tz_16 _ (hT.below ((Below.refl _ _).alloc (Nat.le_refl _) _))).mono ?_; rintro e w' ⟨rfl, rfl⟩))
  go_loopw [1, 13] (fun vu vi wr => ∃ (v k : Nat) (D : List UInt8) (cur : Array Value), vu = .int .u64 v ∧ vi = .int .i64 ((k : Int) + 1) ∧ v < 9223372036854775808 ∧ HexInv u v k D cur ∧ wr.heap[w.heap.size]? = some (.cells cur 114 (0, 0)) ∧ Below w.heap.size w wr) (fun vu _ _ => (RowKit.intOf vu).toNat)
  case atStart => exact ⟨u, 64, [], _, rfl, rfl, hu, hst, heap_alloc_new w _, (Below.refl _ _).alloc (Nat.le_refl _) _⟩
  case round =>
    obtain ⟨v, k, D, cur, rfl, rfl, hv, HI, hb, hbel⟩ := hrel
    rename World => W0
    obtain ⟨hk1, hk2⟩ := HI.low hu
    have hal : Tryd.prog.arrayLen 114 = 65 := by kernel_rfl
    have hsl : ∀ W, (Instr.sliceAt 114 (.pointer (some ⟨w.heap.size, 0, none⟩)) (some (.int .i64 (k : Int))) none none).run Tryd.prog W = .ok (.slice (some ⟨w.heap.size, k, none⟩) (65 - k) (65 - k)) W := fun W => by
      rw [run_sliceAt_array_l W 114 ⟨w.heap.size, 0, none⟩ (by kernel_rfl) .i64 (k : Int) (by omega) (by rw [hal]; omega)]
      rw [hal, show ((Go.sizeOf (Tryd.prog.elem 114)).run Tryd.prog W) = .ok 1 W from by kernel_rfl]
      simp only [slicedAt, Result.andThen, Nat.mul_one, Int.toNat_natCast]
      rw [if_neg (by omega), show (⟨w.heap.size, 0, none⟩ : Addr).add k = ⟨w.heap.size, k, none⟩ by unfold Addr.add; split <;> simp_all]
    clear hal
    have hcell : W0.cell? ⟨w.heap.size, k, none⟩ = some (cur[k]'(by rw [HI.size]; omega)) := by
      rw [cell_of_row W0 w.heap.size k cur 114 (0, 0) hb, Array.getElem?_eq_getElem]
    have hfz : W0.frozen? ⟨w.heap.size, k, none⟩ = false := by simp [World.frozen?, hb]
    by_cases h16 : 16 ≤ v
    · have hix : ∀ W, (Instr.index 9 (.string hexDigits) (.int .u64 ((v : Int) % 16))).run Tryd.prog W = .ok (.int .u8 ((hexD (v % 16)).toNat : Int)) W := fun W => idx_hex 9 Tryd.underlying9 .u64 (v % 16) (by omega) W
      have ha : bits .and .u64 (v : Int) 15 = (v : Int) % 16 := and15 v hv
      have hlo : 0 ≤ (v : Int) % 16 := by omega
      go_wp2
      go_roundw
      case rel =>
        obtain ⟨m, rfl⟩ : ∃ m, k = m + 1 := ⟨k - 1, by omega⟩
        exact ⟨v / 16, m, _, _, rfl, rfl, by omega, HI.step h16 (by omega), heap_set hb _ _, hbel.setCell (Nat.le_refl _) _⟩
      case measure => simp [RowKit.intOf]; omega
    · have hix := fun W => idx_hex 9 Tryd.underlying9 .u64 v (by omega) W
      have hp := HI.put hk2 (hexD v)
      have hl : (hexD v :: D).length = 65 - k := by rw [List.length_cons]; have := HI.len; omega
      have hcv : (convert 36 9 (.slice (some ⟨w.heap.size, k, none⟩) (65 - k) (65 - k))).run Tryd.prog (W0.setCell ⟨w.heap.size, k, none⟩ (.int .u8 ((hexD v).toNat : Int))) = .ok (.string ⟨(hexS u).toArray⟩) (W0.setCell ⟨w.heap.size, k, none⟩ (.int .u8 ((hexD v).toNat : Int))) := by
        have h := run_convert_bytes_back (P := Tryd.prog) (W0.setCell ⟨w.heap.size, k, none⟩ (.int .u8 ((hexD v).toNat : Int))) 36 9 5 ⟨w.heap.size, k, none⟩ (65 - k) (hexD v :: D) Tryd.underlying36 Tryd.underlying5 Tryd.underlying9 (fun j hj => by
          have e : (⟨w.heap.size, k, none⟩ : Addr).add j = ⟨w.heap.size, k + j, none⟩ := by unfold Addr.add; split <;> simp_all
          rw [e, cell_of_row _ w.heap.size (k + j) _ 114 (0, 0) (heap_set hb k _)]
          exact hp j _ (List.getElem?_eq_getElem hj))
        rw [hl] at h
        rw [h, HI.val, hexS, if_pos (by omega)]
        rfl
      have HC := Lib.hid hcv
      clear hcv hp hl
      have hcv := HC.out
      go_wp2
      go_ret2
      exact ⟨rfl, hbel.setCell (Nat.le_refl _) _⟩
set_option maxRecDepth 100000 in
theorem internal_FormatInt_hex (u : Nat) (hu : u < 9223372036854775808) (w : World) (hT : TB w) :
    Calls Tryd.prog 55 #[.int .i64 u, .int .i64 16] w fun e w' => e = .returned (.string ⟨(hexS u).toArray⟩) ∧ Below w.heap.size w w' := by
  go_enter Tryd.func55, Tryd.ntmps55
  go_wp2_with (go_at_call 63; refine (formatBits_hex u hu _ hT).mono ?_; rintro e w' ⟨rfl, hb⟩)
  go_ret
  exact ⟨rfl, hb⟩
set_option maxRecDepth 100000 in
theorem strconv_FormatInt_hex (u : Nat) (hu : u < 9223372036854775808) (w : World) (hT : TB w) :
    Calls Tryd.prog 44 #[.int .i64 u, .int .i64 16] w fun e w' => e = .returned (.string ⟨(hexS u).toArray⟩) ∧ Below w.heap.size w w' := by
  go_enter Tryd.func44, Tryd.ntmps44
  go_wp2_with (go_at_call 55; refine (internal_FormatInt_hex u hu _ hT).mono ?_; rintro e w' ⟨rfl, hb⟩)
  go_ret
  exact ⟨rfl, hb⟩
set_option maxRecDepth 100000 in
theorem strconv_FormatInt_dec (u : Nat) (hu : u < 9223372036854775808) (w : World) (hT : TB w) :
    Calls Tryd.prog 44 #[.int .i64 u, .int .i64 10] w fun e w' => e = .returned (.string ⟨(Lib.decDigits u).toArray⟩) ∧ Below w.heap.size w w' := by
  have htab := hT.pow
  clear hT
  go_enter Tryd.func44, Tryd.ntmps44
  go_wp2_with (go_at_call 55; refine (Tryd.internal_strconv_FormatInt_10 u (by omega) (by omega) _ htab).mono ?_; rintro e w' ⟨rfl, k, os, rfl⟩)
  go_ret
  refine ⟨?_, Lib.below_grow _ _ (Nat.le_refl _) _ _⟩
  rw [Lib.itoa_nonneg]; rfl
end Go.Proofs.YtmobbclpfbkkkaaDoor
