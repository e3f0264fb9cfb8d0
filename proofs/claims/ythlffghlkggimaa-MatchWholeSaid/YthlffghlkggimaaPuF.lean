/- Strings as lists of bytes, for the pure side. -/
import Derived.Test.YthlffghlkggimaaPuA
import Derived.Lib.Strings
import Derived.Lib.SmallJoins
import Derived.Lib.ItoaNum
import Derived.Lib.SlTrimSet
namespace Go.Proofs.Ythlffghlkggimaa.Pr
open Go Go.RowKit Go.Proofs.YthlffghlkggimaaW.PrintWords Go.Proofs.YthlffghlkggimaaW.PrintLast Go.Proofs.YthlffghlkggimaaW.PrintMore
def B (l : List UInt8) : ByteArray := ⟨l.toArray⟩
theorem B_data (l : List UInt8) : (B l).data.toList = l := rfl
theorem B_eta (s : ByteArray) : B s.data.toList = s := by obtain ⟨⟨l⟩⟩ := s; rfl
theorem B_inj {l m : List UInt8} (h : B l = B m) : l = m := by have := congrArg (fun s : ByteArray => s.data.toList) h; exact this
theorem B_ext {s t : ByteArray} (h : s.data.toList = t.data.toList) : s = t := by rw [← B_eta s, ← B_eta t, h]
theorem B_toList (l : List UInt8) : (B l).toList = l := by rw [Lib.toList_data]; rfl
theorem B_size (l : List UInt8) : (B l).size = l.length := rfl
theorem B_append (l m : List UInt8) : B l ++ B m = B (l ++ m) := B_ext (by rw [Joins.data_append]; rfl)
theorem B_extract (l : List UInt8) (a b : Nat) : (B l).extract a b = B ((l.drop a).take (b - a)) := B_ext (by rw [Lib.extract_data]; rfl)
theorem B_lit (l : List UInt8) : (⟨l.toArray⟩ : ByteArray) = B l := rfl
theorem bt_B (l : List UInt8) (i : Nat) (h : i < l.length) : bt (B l) (i : Int) = (l[i].toNat : Int) := by
 unfold bt
 rw [Int.toNat_natCast, dif_pos (show i < (B l).size from h)]
 rfl
theorem bt_drop {l r : List UInt8} {i : Nat} {c : UInt8} (h : l.drop i = c :: r) : bt (B l) (i : Int) = (c.toNat : Int) ∧ i < l.length ∧ l.drop (i + 1) = r := by
 have hi : i < l.length := by
  rcases Nat.lt_or_ge i l.length with h' | h'
  ·exact h'
  ·rw [List.drop_of_length_le h'] at h; cases h
 rw [List.drop_eq_getElem_cons hi] at h
 injection h with h1 h2
 exact ⟨by rw [bt_B l i hi, h1], hi, h2⟩
theorem drop_nil {l : List UInt8} {i : Nat} (h : l.drop i = []) : l.length ≤ i := by
 rcases Nat.lt_or_ge i l.length with h' | h'
 ·rw [List.drop_eq_getElem_cons h'] at h; cases h
 ·exact h'
theorem byte_eq {c : UInt8} {n : Nat} (hn : n < 256) : (c.toNat : Int) = n ↔ c = UInt8.ofNat n := by
 constructor
 ·intro h
  have : c.toNat = n := by omega
  rw [← this]; simp
 ·intro h; subst h; simp; omega
theorem u8_lt (c : UInt8) : c.toNat < 256 := c.toNat_lt
theorem u8_ext {c d : UInt8} (h : c.toNat = d.toNat) : c = d := UInt8.toNat_inj.1 h
end Go.Proofs.Ythlffghlkggimaa.Pr
