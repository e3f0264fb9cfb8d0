/- The laws' own helpers: Cut, few, put. -/
import Derived.Test.YtghabadccaghcaaDoorPuPkB
import Derived.Test.YtghabadccaghcaaDoorPuPkW
import Derived.Test.YtghabadccaghcaaDoorPr20
import Derived.Test.YtghabadccaghcaaDoorPr24
namespace Go.Proofs.YtghabadccaghcaaDoor.Pr
open Go Go.RowKit Go.Proofs.YtghabadccaghcaaDoorW.PrintWords Go.Proofs.YtghabadccaghcaaDoorW.PrintLast Go.Proofs.YtghabadccaghcaaDoorW.PrintMore

theorem cut_some (a : ByteArray) (n : Nat) : scribelaw01_Cut.f a (n : Int) = some (B (a.data.toList.take n)) := by
  unfold scribelaw01_Cut.f
  have hs : a.data.toList.length = a.size := Array.length_toList
  by_cases h : (a.size : Int) > (n : Int)
  · rw [if_pos h, if_pos (by omega), if_pos (by omega)]
    congr 1
    apply B_ext
    rw [Lib.extract_data, Int.toNat_natCast]
    rfl
  · rw [if_neg h, List.take_of_length_le (by omega), B_eta]
/-- a thing, its text cut -/
def cutT (x : S28) : S28 := ⟨x.f0, x.f1, B (x.f2.data.toList.take 200)⟩
theorem rdT_get (l : List S28) (i : Nat) (h : i < l.length) : rd_T28 l (i : Int) = l[i] := by
  unfold rd_T28
  simp [h]
theorem few_loop (l : List S28) (n : Nat) (hn : n ≤ 1000) (d : Nat) : ∀ i, (i ≤ n ∧ i ≤ l.length) → min n l.length - i = d →
    Ev (fun k => scribelaw01_few.l0 k l (n : Int) ((l.take i).map cutT) (i : Int)) ((l.take n).map cutT) := by
  induction d with
  | zero =>
    intro i hi hd
    refine Ev.succ ?_
    simp only [scribelaw01_few.l0]
    by_cases h : i < l.length
    · have : i = n := by omega
      subst this
      exact Ev.pos (by omega) (Ev.neg (by omega) (Ev.now _))
    · have : i = l.length := by omega
      subst this
      refine Ev.neg (by omega) ?_
      rw [List.take_of_length_le (Nat.le_refl _), List.take_of_length_le hi.1]
      exact Ev.now _
  | succ d ih =>
    intro i hi hd
    have hlt : i < l.length := by omega
    have hn2 : i < n := by omega
    refine Ev.succ ?_
    simp only [scribelaw01_few.l0]
    refine Ev.pos (by omega) (Ev.pos (by omega) (Ev.pos (by omega) ?_))
    rw [rdT_get l i hlt]
    refine Ev.bindc (cut_some l[i].f2 200) (Ev.pos (by rw [List.length_map, List.length_take]; omega) ?_)
    rw [w64 (by omega) (by omega)]
    have := ih (i + 1) (by omega) (by omega)
    rw [List.take_succ_eq_append_getElem hlt, List.map_append] at this
    exact this
theorem few_ev (l : List S28) (n : Nat) (hn : n ≤ 1000) : Ev (fun k => scribelaw01_few.f k l (n : Int)) ((l.take n).map cutT) := few_loop l n hn _ 0 (by omega) rfl

/-- what a thing is written as -/
def putL (x : S28) : List UInt8 := if x.f0 = 1 then intL x.f1 else if x.f0 = 2 then textL x.f2.data.toList else if x.f0 = 3 then [40] else if x.f0 = 4 then [41] else []
theorem wInt (s : List UInt8) (n : Int) (hn : i64 n) (hs : s.length ≤ 1000000000) : pack_Writer_Int.f (B s) n = some (B (s ++ intL n)) := by
  unfold pack_Writer_Int.f
  unfold i64 at hn
  rw [if_pos (by rw [B_size]; omega), if_pos (by simp [i64ok]; omega), B_lit [105], B_lit [59], B_lit, B_append, B_append, B_append]
  unfold intL
  simp only [List.append_assoc, List.cons_append, List.nil_append]
theorem wText (s : List UInt8) (t : ByteArray) (ht : t.size ≤ 1000000000) (hs : s.length ≤ 1000000000) : pack_Writer_Text.f (B s) t = some (B (s ++ textL t.data.toList)) := by
  unfold pack_Writer_Text.f
  rw [if_pos (by rw [B_size]; omega), if_pos (by omega), B_lit [58], B_lit, B_append, B_append, ← B_eta t, B_append, B_data]
  unfold textL
  rw [B_size, Lib.itoa_nonneg]
  simp only [List.append_assoc, List.cons_append, List.nil_append]
theorem wOpen (s : List UInt8) (hs : s.length ≤ 1000000000) : pack_Writer_Open.f (B s) = some (B (s ++ [40])) := by
  unfold pack_Writer_Open.f
  rw [if_pos (by rw [B_size]; omega), B_lit [40], B_append]
theorem wClose (s : List UInt8) (hs : s.length ≤ 1000000000) : pack_Writer_Close.f (B s) = some (B (s ++ [41])) := by
  unfold pack_Writer_Close.f
  rw [if_pos (by rw [B_size]; omega), B_lit [41], B_append]
theorem wBytes (s : List UInt8) (hs : s.length ≤ 1000000000) : pack_Writer_Bytes.f (B s) = some (B s, B s) := by
  unfold pack_Writer_Bytes.f
  rw [if_pos (by rw [B_size]; omega)]
def okT (x : S28) : Prop := i64 x.f1 ∧ x.f2.size ≤ 200
theorem cutT_ok (x : S28) (h : i64 x.f1) : okT (cutT x) := ⟨h, by show (B _).size ≤ 200; rw [B_size, List.length_take]; omega⟩
theorem putL_len (x : S28) (h : okT x) : (putL x).length ≤ 250 := by
  have h1 := Lib.itoa_length_le x.f1 h.1.1 h.1.2
  have h2 : x.f2.data.toList.length ≤ 200 := by rw [Array.length_toList]; exact h.2
  have h3 := dec_len19 x.f2.data.toList.length (by omega)
  unfold putL
  split
  · unfold intL; simp only [List.length_cons, List.length_append, List.length_nil]; omega
  · split
    · unfold textL; simp only [List.length_cons, List.length_append]; omega
    · repeat' split
      all_goals simp
theorem put_ev (s : List UInt8) (x : S28) (h : okT x) (hs : s.length ≤ 1000000000) : Ev (fun k => scribelaw01_put.f k (B s) x.f0 x.f1 x.f2) (B (putL x), B (s ++ putL x)) := by
  have h2 : x.f2.data.toList.length ≤ 200 := by rw [Array.length_toList]; exact h.2
  unfold scribelaw01_put.f
  by_cases h1 : x.f0 = 1
  · have e : putL x = intL x.f1 := by unfold putL; rw [if_pos h1]
    rw [e]
    exact Ev.pos h1 (Ev.bindc (wInt s _ h.1 hs) (Ev.bind' (refInt_ev _ h.1) (Ev.now _)))
  · refine Ev.neg h1 ?_
    by_cases h2c : x.f0 = 2
    · have e : putL x = textL x.f2.data.toList := by unfold putL; rw [if_neg h1, if_pos h2c]
      rw [e]
      have := refText_ev x.f2.data.toList (by omega)
      rw [B_eta] at this
      have h3 := h.2
      exact Ev.pos h2c (Ev.bindc (wText s _ (by omega) hs) (Ev.bind' this (Ev.now _)))
    · refine Ev.neg h2c ?_
      by_cases h3 : x.f0 = 3
      · have e : putL x = [40] := by unfold putL; rw [if_neg h1, if_neg h2c, if_pos h3]
        rw [e]
        exact Ev.pos h3 (Ev.bindc (wOpen s hs) (Ev.now _))
      · refine Ev.neg h3 ?_
        by_cases h4 : x.f0 = 4
        · have e : putL x = [41] := by unfold putL; rw [if_neg h1, if_neg h2c, if_neg h3, if_pos h4]
          rw [e]
          exact Ev.pos h4 (Ev.bindc (wClose s hs) (Ev.now _))
        · have e : putL x = [] := by unfold putL; rw [if_neg h1, if_neg h2c, if_neg h3, if_neg h4]
          rw [e, List.append_nil]
          exact Ev.neg h4 (Ev.now _)
end Go.Proofs.YtghabadccaghcaaDoor.Pr
