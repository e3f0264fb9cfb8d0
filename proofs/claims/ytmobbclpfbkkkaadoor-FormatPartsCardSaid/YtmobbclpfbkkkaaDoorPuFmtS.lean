/- format: what a format and a value come to, on plain lists. -/
import Derived.Test.YtmobbclpfbkkkaaDoorPuCell0
namespace Go.Proofs.YtmobbclpfbkkkaaDoor.Pr
open Go Go.RowKit Go.Proofs.YtmobbclpfbkkkaaDoorW.PrintWords Go.Proofs.YtmobbclpfbkkkaaDoorW.PrintLast Go.Proofs.YtmobbclpfbkkkaaDoorW.PrintMore

/-- the flags -/
structure FS where
  left : Bool
  zero : Bool
  plus : Bool
  blank : Bool
def FS.none : FS := ⟨false, false, false, false⟩
def flagsS : List UInt8 → FS → FS × List UInt8
  | [], x => (x, [])
  | c :: r, x => if c.toNat = 45 then flagsS r { x with left := true } else if c.toNat = 48 then flagsS r { x with zero := true }
    else if c.toNat = 43 then flagsS r { x with plus := true } else if c.toNat = 32 then flagsS r { x with blank := true } else (x, c :: r)
/-- a number, at most 1001 -/
def numD : List UInt8 → Nat → Nat × List UInt8
  | [], n => (n, [])
  | c :: r, n => if isDig c = true then numD r (min (10 * n + (c.toNat - 48)) 1001) else (n, c :: r)
def precS : List UInt8 → Int × List UInt8
  | [] => (-1, [])
  | c :: r => if c.toNat = 46 then (((numD r 0).1 : Int), (numD r 0).2) else (-1, c :: r)
structure Sp where
  fs : FS
  width : Nat
  prec : Int
  verb : UInt8
def verbOk (c : UInt8) : Bool := [100, 105, 120, 102, 115, 99, 37].contains c
def verbS (f : FS) (w : Nat) (p : Int) : List UInt8 → Sp × Int × List UInt8
  | [] => (⟨f, w, p, 0⟩, 16, [])
  | c :: r => if verbOk c = true then (⟨f, w, p, c⟩, 0, r) else (⟨f, w, p, c⟩, 16, c :: r)
/-- what stands behind the flags: the conversion, the error's number, what is left -/
def specT (f : FS) (m : List UInt8) : Sp × Int × List UInt8 :=
  let b := numD m 0
  let p := precS b.2
  if 1000 < b.1 ∨ 1000 < p.1 then (⟨f, b.1, p.1, 0⟩, 12, p.2) else verbS f b.1 p.1 p.2
/-- what stands behind a percent sign -/
def specS (l : List UInt8) : Sp × Int × List UInt8 := specT (flagsS l FS.none).1 (flagsS l FS.none).2

def signS (f : FS) (neg : Bool) : List UInt8 := if neg = true then [45] else if f.plus = true then [43] else if f.blank = true then [32] else []
def padS (f : FS) (width : Nat) (sign body : List UInt8) (z : Bool) : List UInt8 :=
  if f.left = true then sign ++ body ++ List.replicate (width - sign.length - body.length) 32
  else if (z && f.zero) = true then sign ++ List.replicate (width - sign.length - body.length) 48 ++ body
  else List.replicate (width - sign.length - body.length) 32 ++ sign ++ body
def wholeS (x : Sp) (v : Int) (dg : List UInt8) : List UInt8 :=
  let s := if x.prec = 0 ∧ v.natAbs / 1000000 = 0 then [] else dg
  padS x.fs x.width (signS x.fs (decide (v ≤ -1000000))) (List.replicate (x.prec - s.length).toNat 48 ++ s) (decide (x.prec < 0))
def placesS (x : Sp) (v : Int) : List UInt8 :=
  let p : Nat := if x.prec < 0 then 6 else x.prec.toNat
  let s := Lib.decDigits (v.natAbs / 1000000) ++ (if p = 0 then [] else [46] ++ ((Lib.decDigits (1000000 + v.natAbs % 1000000)).drop 1 ++ List.replicate (p - 6) 48).take p)
  padS x.fs x.width (signS x.fs (decide (v < 0))) s true
def oneS (x : Sp) (kd n : Int) (l : List UInt8) : List UInt8 :=
  let v := numS kd n l
  if x.verb = 100 ∨ x.verb = 105 then wholeS x v (Lib.decDigits (v.natAbs / 1000000))
  else if x.verb = 120 then wholeS x v (hexS (v.natAbs / 1000000))
  else if x.verb = 102 then placesS x v
  else if x.verb = 99 then padS x.fs x.width [] ((if kd = 1 then [UInt8.ofNat (Int.tdiv n 1000000 % 256).toNat] else strS kd n l).take 1) false
  else padS x.fs x.width [] (if 0 ≤ x.prec then (strS kd n l).take x.prec.toNat else strS kd n l) false

abbrev Cl : Type := Int × Int × List UInt8
theorem flagsS_le (l : List UInt8) : ∀ x, (flagsS l x).2.length ≤ l.length := by
  induction l with
  | nil => intro x; exact Nat.le_refl _
  | cons c r ih =>
    intro x
    rw [flagsS]
    repeat' split
    all_goals first | (refine Nat.le_trans (ih _) ?_; simp) | simp
theorem numD_le (l : List UInt8) : ∀ n, (numD l n).2.length ≤ l.length := by
  induction l with
  | nil => intro x; exact Nat.le_refl _
  | cons c r ih =>
    intro n
    rw [numD]
    split
    · refine Nat.le_trans (ih _) ?_; simp
    · simp
theorem precS_le (l : List UInt8) : (precS l).2.length ≤ l.length := by
  cases l with
  | nil => exact Nat.le_refl _
  | cons c r =>
    rw [precS]
    split
    · refine Nat.le_trans (numD_le r 0) ?_; simp
    · simp
theorem specS_le (l : List UInt8) : (specS l).2.2.length ≤ l.length := by
  have h1 := flagsS_le l FS.none
  have h2 := numD_le (flagsS l FS.none).2 0
  have h3 := precS_le (numD (flagsS l FS.none).2 0).2
  unfold specS specT
  simp only
  split
  · simp only; omega
  · generalize (precS (numD (flagsS l FS.none).2 0).2).2 = m at *
    cases m with
    | nil => simp [verbS]
    | cons c r =>
      rw [List.length_cons] at h3
      rw [verbS]
      split
      · simp only; omega
      · simp only [List.length_cons]; omega

/-- a text by a format, behind what is told already -/
def printS (l : List UInt8) (args : List Cl) (out : List UInt8) : List UInt8 × Int :=
  match l with
  | [] => if 4000 < out.length then ([], 12) else (out, 0)
  | c :: r =>
    if c.toNat = 37 then
      if (specS r).2.1 ≠ 0 then ([], (specS r).2.1)
      else if (specS r).1.verb = 37 then printS (specS r).2.2 args (out ++ [37])
      else
        let a : Cl := args.headD (0, 0, [])
        let o := out ++ oneS (specS r).1 a.1 a.2.1 a.2.2
        if 4000 < o.length then ([], 12) else printS (specS r).2.2 args.tail o
    else printS r args (out ++ [c])
termination_by l.length
decreasing_by
  all_goals first
    | (have := specS_le r; simp only [List.length_cons]; omega)
    | (simp only [List.length_cons]; omega)

end Go.Proofs.YtmobbclpfbkkkaaDoor.Pr
