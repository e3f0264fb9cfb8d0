/- regex.Print: a set's words as digits; what the two loops over them come to. -/
import Derived.Test.YthlffghlkggimaaTb9
import Derived.Test.YthlffghlkggimaaWAll
import Derived.WalkMore
import Derived.Lib.Hide
import Derived.Laws.BitsLemmas
import Derived.Laws.BytesArg
namespace Go.Proofs.Ythlffghlkggimaa.Pr
open Go Go.RowKit Go.Proofs.YthlffghlkggimaaW.PrintWords Go.Proofs.YthlffghlkggimaaW.PrintLast Go.Proofs.YthlffghlkggimaaW.PrintMore
def hexT : ByteArray := ⟨#[48, 49, 50, 51, 52, 53, 54, 55, 56, 57, 97, 98, 99, 100, 101, 102]⟩
def hexd (w : Int) (j : Nat) : UInt8 := hexT.data.getD (bits .and .u64 (w / 2 ^ (60 - 4 * j)) 15).toNat 0
def wordN (w : Int) (n : Nat) : List UInt8 := (List.range n).map (hexd w)
def wordL (w : Int) : List UInt8 := wordN w 16
def wordsN (a b c d : Int) : Nat → List UInt8
 | 0 => []
 | 1 => wordL a
 | 2 => wordL a ++ wordL b
 | 3 => wordL a ++ wordL b ++ wordL c
 | _ => wordL a ++ wordL b ++ wordL c ++ wordL d
def nthW (a b c d : Int) : Nat → Int
 | 0 => a
 | 1 => b
 | 2 => c
 | _ => d
theorem wordsN_succ (a b c d : Int) (k : Nat) (h : k < 4) : wordsN a b c d (k + 1) = wordsN a b c d k ++ wordN (nthW a b c d k) 16 := by
 have : k = 0 ∨ k = 1 ∨ k = 2 ∨ k = 3 := by omega
 rcases this with rfl | rfl | rfl | rfl <;> simp [wordsN, nthW, wordL]
def okW (a : Int) : Prop := 0 ≤ a ∧ a < 2 ^ 64
instance (a : Int) : Decidable (okW a) := by unfold okW; infer_instance
def runtime_plainError_Error.f (a b c d : Int) : Option ByteArray := if okW a ∧ okW b ∧ okW c ∧ okW d then some ⟨(wordsN a b c d 4).toArray⟩ else none
theorem nthW_pos {a b c d : Int} {t : ByteArray} (h : runtime_plainError_Error.f a b c d = some t) (k : Nat) : okW (nthW a b c d k) := by
 unfold runtime_plainError_Error.f at h
 split at h
 ·rename_i h'
  match k with
  | 0 => exact h'.1
  | 1 => exact h'.2.1
  | 2 => exact h'.2.2.1
  | _ + 3 => exact h'.2.2.2
 ·cases h
theorem words_some {a b c d : Int} {t : ByteArray} (h : runtime_plainError_Error.f a b c d = some t) : t = ⟨(wordsN a b c d 4).toArray⟩ := by
 unfold runtime_plainError_Error.f at h
 split at h
 ·exact (Option.some.inj h).symm
 ·cases h
theorem ba_join (p : ByteArray) (l m : List UInt8) : (p ++ ⟨l.toArray⟩ : ByteArray) ++ ⟨m.toArray⟩ = p ++ ⟨(l ++ m).toArray⟩ := by
 have e : ∀ {s t : ByteArray}, s.data = t.data → s = t := fun {s t} h => by cases s; cases t; simpa using h
 apply e
 simp
theorem wordN_len (u : Int) (n : Nat) : (wordN u n).length = n := by simp [wordN]
theorem wordsN_len (a b c d : Int) (k : Nat) (h : k ≤ 4) : (wordsN a b c d k).length = 16 * k := by
 have : k = 0 ∨ k = 1 ∨ k = 2 ∨ k = 3 ∨ k = 4 := by omega
 rcases this with rfl | rfl | rfl | rfl | rfl <;> simp [wordsN, wordL, wordN_len]
theorem words_size {a b c d : Int} {t : ByteArray} (h : runtime_plainError_Error.f a b c d = some t) : t.size = 64 := by
 rw [words_some h]
 exact wordsN_len a b c d 4 (by omega)
theorem nib (u : Int) (h : okW u) (j : Nat) : 0 ≤ bits .and .u64 (u / 2 ^ (60 - 4 * j)) 15 ∧ bits .and .u64 (u / 2 ^ (60 - 4 * j)) 15 < 16 := by
 have h0 : 0 ≤ u / 2 ^ (60 - 4 * j) := Int.ediv_nonneg h.1 (Int.pow_nonneg (by omega))
 have h1 : u / 2 ^ (60 - 4 * j) < 2 ^ 64 := Int.lt_of_le_of_lt (Int.ediv_le_self _ h.1) h.2
 rw [show (15 : Int) = 2 ^ 4 - 1 from rfl, bits_mask .u64 64 (by decide) (fun n a b => by rw [IntKind.wrap_u64]; omega) 4 (by decide) _ h0 h1]
 omega
theorem words_0 (p : ByteArray) (a b c d : Int) : (p ++ ⟨(wordsN a b c d 0).toArray⟩ : ByteArray) = p := by
 have e : ∀ {s t : ByteArray}, s.data = t.data → s = t := fun {s t} h => by cases s; cases t; simpa using h
 apply e
 simp [wordsN]
theorem words_round (p : ByteArray) (a b c d : Int) (k : Nat) (h : k < 4) : (p ++ ⟨(wordsN a b c d k ++ wordN (nthW a b c d k) 16).toArray⟩ : ByteArray) = p ++ ⟨(wordsN a b c d (k + 1)).toArray⟩ := by rw [wordsN_succ a b c d k h]
theorem strNums_one (x : UInt8) : strOfNums [(x.toNat : Int)] = ⟨[x].toArray⟩ := by simp [strOfNums]
theorem hex_round (p : ByteArray) (l : List UInt8) (u : Int) (j i : Nat) (hi : i < hexT.size) (e : i = (bits .and .u64 (u / 2 ^ (60 - 4 * j)) 15).toNat) :
  (p ++ ⟨(l ++ wordN u j).toArray⟩ : ByteArray) ++ strOfNums [((hexT[i]'hi).toNat : Int)] = p ++ ⟨(l ++ wordN u (j + 1)).toArray⟩ := by
 rw [strNums_one, ba_join]
 have e2 : hexT[i]'hi = hexd u j := by
  unfold hexd
  rw [← e]
  simp [Array.getD]
  rw [dif_pos hi]
  rfl
 rw [e2]
 unfold wordN
 rw [List.range_succ, List.map_append, ← List.append_assoc]
 rfl
theorem conv_one {W : World} {b : Int} {n : Nat} (hn : n = W.heap.size) :
  (convert 101 9 (.slice (some ⟨n, 0, none⟩) 1 1)).run Try.prog (W.alloc (.cells #[.int .u8 b] 5)) = .ok (.string (strOfNums [b])) (W.alloc (.cells #[.int .u8 b] 5)) := by
 subst hn
 refine run_convert_bytes_arg _ 101 5 Try.underlying101 Try.underlying5 W.heap.size 0 1 1 [b] rfl (fun i hi => ?_) 9 Try.underlying9
 obtain rfl : i = 0 := by omega
 have := heap_alloc_new W (.cells #[.int .u8 b] 5)
 exact (blk_cell (by simpa using this) 0).trans rfl
theorem set_at0 {a b c d : Int} (w : World) : (Instr.index 49 (.agg #[.int .u64 a, .int .u64 b, .int .u64 c, .int .u64 d]) (.int .i64 0)).run Try.prog w = .ok (.int .u64 a) w := by kernel_rfl
theorem set_at1 {a b c d : Int} (w : World) : (Instr.index 49 (.agg #[.int .u64 a, .int .u64 b, .int .u64 c, .int .u64 d]) (.int .i64 1)).run Try.prog w = .ok (.int .u64 b) w := by kernel_rfl
theorem set_at2 {a b c d : Int} (w : World) : (Instr.index 49 (.agg #[.int .u64 a, .int .u64 b, .int .u64 c, .int .u64 d]) (.int .i64 2)).run Try.prog w = .ok (.int .u64 c) w := by kernel_rfl
theorem set_at3 {a b c d : Int} (w : World) : (Instr.index 49 (.agg #[.int .u64 a, .int .u64 b, .int .u64 c, .int .u64 d]) (.int .i64 3)).run Try.prog w = .ok (.int .u64 d) w := by kernel_rfl
theorem set_at {a b c d : Int} (w : World) (k : Nat) (h : k < 4) : (Instr.index 49 (.agg #[.int .u64 a, .int .u64 b, .int .u64 c, .int .u64 d]) (.int .i64 (k : Int))).run Try.prog w = .ok (.int .u64 (nthW a b c d k)) w := by
 have : k = 0 ∨ k = 1 ∨ k = 2 ∨ k = 3 := by omega
 rcases this with rfl | rfl | rfl | rfl
 ·exact set_at0 w
 ·exact set_at1 w
 ·exact set_at2 w
 ·exact set_at3 w
end Go.Proofs.Ythlffghlkggimaa.Pr
