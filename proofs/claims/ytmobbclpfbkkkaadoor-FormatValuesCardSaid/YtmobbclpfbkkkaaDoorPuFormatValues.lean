/- Values that are wanting are nothing: the pure statement. -/
import Derived.Test.YtmobbclpfbkkkaaDoorPuFmtGood
import Derived.Test.YtmobbclpfbkkkaaDoorPuFmtM
import Derived.Test.YtmobbclpfbkkkaaDoorPr4
import Derived.Test.YtmobbclpfbkkkaaDoorPr24
namespace Go.Proofs.YtmobbclpfbkkkaaDoor.Pr
open Go Go.RowKit Go.Proofs.YtmobbclpfbkkkaaDoorW.PrintWords Go.Proofs.YtmobbclpfbkkkaaDoorW.PrintLast Go.Proofs.YtmobbclpfbkkkaaDoorW.PrintMore

def strC (a : Cl) : List UInt8 := strS a.1 a.2.1 a.2.2
theorem valsF_snoc (n : Nat) : valsF (n + 1) = valsF n ++ [60, 37, 115, 62] := by
  induction n with
  | zero => rfl
  | succ n ih =>
    show [60, 37, 115, 62] ++ valsF (n + 1) = ([60, 37, 115, 62] ++ valsF n) ++ [60, 37, 115, 62]
    rw [ih, List.append_assoc]
theorem valsS_snoc (n : Nat) : ∀ args : List Cl, valsS (n + 1) args = valsS n args ++ ([60] ++ strC (args.getD n (0, 0, [])) ++ [62]) := by
  induction n with
  | zero =>
    intro args
    cases args <;> simp [valsS, strC]
  | succ n ih =>
    intro args
    rw [valsS, ih, valsS]
    cases args with
    | nil => simp
    | cons a r => simp
theorem valsF_len (n : Nat) : (valsF n).length = 4 * n := by
  induction n with
  | zero => rfl
  | succ n ih => rw [valsF_snoc, List.length_append, ih]; simp; omega
theorem valsS_len (n : Nat) : ∀ args : List Cl, (∀ x ∈ args, okCl x) → (valsS n args).length ≤ 402 * n := by
  induction n with
  | zero => intro args _; simp [valsS]
  | succ n ih =>
    intro args h
    have h1 := ih args.tail (fun x hx => h x (List.mem_of_mem_tail hx))
    have h2 := (okCl_head args h).2.1
    rw [valsS]
    simp only [List.length_append, List.length_singleton]
    omega
theorem vals_loop (r : List S32) (n : Nat) (hn : n ≤ 8) (hok : ∀ x ∈ r, okCl (cl x)) (d : Nat) : ∀ i : Nat, n - i = d → i ≤ n →
    Ev (fun k => scribelaw07_FormatValues.l0 k r (n : Int) (B (valsF i)) (B (valsS i (r.map cl))) (i : Int)) true := by
  have hok' : ∀ x ∈ r.map cl, okCl x := fun x hx => by
    obtain ⟨y, hy, rfl⟩ := List.mem_map.1 hx
    exact hok y hy
  induction d with
  | zero =>
    intro i hd hi
    obtain rfl : i = n := by omega
    have hf := valsF_len i
    refine Ev.succ ?_
    simp only [scribelaw07_FormatValues.l0]
    refine Ev.neg (by omega) (Ev.bindc (print_some (valsF i) r (by omega) hok) (Ev.bind' awake7_ev (Ev.pos rfl ?_)))
    rw [vals_law i (r.map cl) [] hok' (by simp; omega), List.nil_append]
    exact Ev.pos rfl (Ev.const (by simp))
  | succ d ih =>
    intro i hd hi
    have hw1 : wrap64 ((i : Int) + 1) = ((i + 1 : Nat) : Int) := by rw [w64 (by omega) (by omega)]; omega
    have hf := valsF_len i
    have hv := valsS_len i (r.map cl) hok'
    have next := ih (i + 1) (by omega) (by omega)
    rw [valsF_snoc, valsS_snoc] at next
    have hget : (r.map cl).getD i (0, 0, []) = cl (rd_T32 r (i : Int)) := by
      unfold rd_T32
      rw [Int.toNat_natCast, List.getD_eq_getElem?_getD, List.getD_eq_getElem?_getD, List.getElem?_map]
      cases r[i]? <;> rfl
    rw [hget] at next
    refine Ev.succ ?_
    simp only [scribelaw07_FormatValues.l0, hw1]
    refine Ev.pos (by omega) (Ev.pos (by rw [B_size]; omega) ?_)
    rw [show (⟨#[60, 37, 115, 62]⟩ : ByteArray) = B [60, 37, 115, 62] from rfl, B_append]
    by_cases hil : (i : Int) < (r.length : Int)
    · have hmem : rd_T32 r (i : Int) ∈ r := by
        unfold rd_T32
        rw [Int.toNat_natCast, List.getD_eq_getElem?_getD, List.getElem?_eq_getElem (by omega)]
        exact List.getElem_mem _
      have hx := hok _ hmem
      generalize rd_T32 r (i : Int) = x at *
      have hs := str_ev x.f0 x.f1 x.f2.data.toList (fun h1 => by
        have := hx.1
        unfold numS at this
        rw [if_neg (by show ¬ x.f0 = 2; omega)] at this
        exact this)
      rw [B_eta] at hs
      have hsl := hx.2.1
      have e : strC (cl x) = strS x.f0 x.f1 x.f2.data.toList := rfl
      rw [e] at next
      change (strS x.f0 x.f1 x.f2.data.toList).length ≤ 400 at hsl
      generalize strS x.f0 x.f1 x.f2.data.toList = T at *
      refine Ev.pos hil (Ev.pos (by omega) (Ev.bind' hs ?_))
      rw [show (⟨#[60]⟩ : ByteArray) = B [60] from rfl, show (⟨#[62]⟩ : ByteArray) = B [62] from rfl, B_append, B_append, B_append]
      refine Ev.pos (by rw [B_size]; omega) (Ev.pos (by simp only [B_size, List.length_append, List.length_singleton]; omega) (Ev.pos (by simp only [B_size, List.length_append, List.length_singleton]; omega) next))
    · have hz : rd_T32 r (i : Int) = z32 := by
        unfold rd_T32
        rw [Int.toNat_natCast, List.getD_eq_getElem?_getD, List.getElem?_eq_none (by omega)]
        rfl
      rw [hz, show ([60] ++ strC (cl z32) ++ [62] : List UInt8) = [60, 62] from rfl] at next
      refine Ev.neg hil (Ev.pos (by rw [B_size]; omega) ?_)
      rw [show (⟨#[60, 62]⟩ : ByteArray) = B [60, 62] from rfl, B_append]
      exact next
theorem FormatValues_ev (l0 : List S32) (n : Int) (_w1 : (Lit.int .i64 n).wf = true) : Ev (fun k => scribelaw07_FormatValues.f k l0 n) true := by
  unfold scribelaw07_FormatValues.f
  obtain ⟨r, hr, hrl, hok⟩ := good7_ev l0 8 (by omega)
  refine Ev.bind' hr ?_
  have out : Ev (fun k => scribelaw07_FormatValues.j0 k r n true) true := by
    refine Ev.succ ?_
    simp only [scribelaw07_FormatValues.j0]
    exact Ev.pos (by simp) (Ev.bind' (f := fun _ t => some t) awake7_ev (Ev.now _))
  by_cases h1 : n < 0
  · exact Ev.pos h1 out
  · refine Ev.neg h1 ?_
    by_cases h2 : n > 8
    · rw [decide_eq_true h2]; exact out
    · rw [decide_eq_false h2]
      obtain ⟨m, rfl⟩ := Int.eq_ofNat_of_zero_le (show 0 ≤ n by omega)
      refine Ev.succ ?_
      simp only [scribelaw07_FormatValues.j0]
      exact Ev.neg (by simp) (vals_loop r m (by omega) hok m 0 (by omega) (by omega))

end Go.Proofs.YtmobbclpfbkkkaaDoor.Pr
