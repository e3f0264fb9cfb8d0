/- regex: the parser as a relation, in plain terms, and that the program's functions come to what it says. -/
import Derived.Test.YthlffghlkggimaaPuA
import Derived.Test.YthlffghlkggimaaPuRxS
import Derived.Test.YthlffghlkggimaaPr1
import Derived.Test.YthlffghlkggimaaPr2
import Derived.Test.YthlffghlkggimaaPr4
import Derived.Test.YthlffghlkggimaaPr9
namespace Go.Proofs.Ythlffghlkggimaa.Pr
open Go Go.RowKit Go.Proofs.YthlffghlkggimaaW.PrintWords Go.Proofs.YthlffghlkggimaaW.PrintLast Go.Proofs.YthlffghlkggimaaW.PrintMore
abbrev RSet := S49
abbrev RNode := S52
def zW : RSet := ⟨0, 0, 0, 0⟩
def zN : RNode := ⟨0, zW, []⟩
theorem zW_eq : z49 = zW := rfl
structure St where
 p : Int
 d : Int
 e : Int
 b : Int
def St.go (s : St) : St := { s with p := wrap64 (s.p + 1) }
def St.fail (s : St) (at_ e : Int) : St := if s.e = 0 then ⟨s.p, s.d, e, at_⟩ else s
inductive Nx (t : ByteArray) (s : St) : Option Int → Prop
 | non : (s.e ≠ 0 ∨ (t.size : Int) ≤ s.p) → Nx t s none
 | som : s.e = 0 → 0 ≤ s.p → s.p < (t.size : Int) → Nx t s (some (bt t s.p))
theorem Nx.det {t : ByteArray} {s : St} {o o' : Option Int} (h : Nx t s o) (h' : Nx t s o') : o = o' := by
 cases h with
 | non h =>
  cases h' with
  | non => rfl
  | som a b c => exfalso; rcases h with h | h <;> omega
 | som a b c =>
  cases h' with
  | non h => exfalso; rcases h with h | h <;> omega
  | som => rfl
theorem Nx.range {t : ByteArray} {s : St} {c : Int} (h : Nx t s (some c)) : 0 ≤ c ∧ c < 256 := by
 cases h
 have := bt_range t s.p
 omega
theorem Nx.ok {t : ByteArray} {s : St} {c : Int} (h : Nx t s (some c)) : s.e = 0 ∧ 0 ≤ s.p ∧ s.p < (t.size : Int) ∧ bt t s.p = c := by
 cases h with
 | som a b c => exact ⟨a, b, c, rfl⟩
theorem next_ev {t : ByteArray} {s : St} {o : Option Int} (h : Nx t s o) : regex_reader_next.f t s.p s.d s.e s.b = some (o.getD 0, o.isSome, t, s.p, s.d, s.e, s.b) := by
 unfold regex_reader_next.f
 cases h with
 | non h =>
  by_cases he : s.e = 0
  ·rw [if_pos he, if_pos (by omega)]; rfl
  ·rw [if_neg he]; rfl
 | som a b c => rw [if_pos a, if_neg (by omega), if_pos b, if_pos c]; rfl
theorem fail_ev (t : ByteArray) (s : St) (p e : Int) : regex_reader_fail.f t s.p s.d s.e s.b p e = some (t, (s.fail p e).p, (s.fail p e).d, (s.fail p e).e, (s.fail p e).b) := by
 unfold regex_reader_fail.f St.fail
 split <;> rfl
def badEsc (c : Int) : Bool := decide ((48 ≤ c ∧ c ≤ 57) ∨ (97 ≤ c ∧ c ≤ 122) ∨ (65 ≤ c ∧ c ≤ 90) ∨ c < 32 ∨ 126 < c)
def escF (s : St) (o : Option Int) : Int × St :=
 match o with
 | none => (0, s.go.fail (wrap64 (s.p - 1)) 9)
 | some c => if c = 110 then (10, s.go) else if c = 116 then (9, s.go) else if badEsc c = true then (c, s.go.fail (wrap64 (s.p - 1)) 9) else (c, s.go)
theorem escF_range {t : ByteArray} {s : St} {o : Option Int} (h : Nx t s o) : 0 ≤ (escF s o).1 ∧ (escF s o).1 < 256 := by
 cases o with
 | none => simp [escF]
 | some c =>
  have := h.range
  unfold escF
  simp only
  split
  ·simp
  ·split
   ·simp
   ·split <;> simpa using this
theorem esc_ev {t : ByteArray} {s : St} {o : Option Int} (h : Nx t s o) : Ev (fun k => regex_reader_escape.f k t s.p s.d s.e s.b) ((escF s o).1, t, (escF s o).2.p, (escF s o).2.d, (escF s o).2.e, (escF s o).2.b) := by
 unfold regex_reader_escape.f
 refine Ev.bindc (next_ev h) ?_
 dsimp only
 cases o with
 | none =>
  refine Ev.neg (by simp) (Ev.bindc (fail_ev t s.go _ _) ?_)
  exact Ev.now _
 | some c =>
  refine Ev.pos (by simp) ?_
  simp only [Option.getD_some]
  by_cases h1 : c = 110
  ·have e : escF s (some c) = (10, s.go) := by simp [escF, h1]
   rw [e]
   exact Ev.pos h1 (Ev.now _)
  ·refine Ev.neg h1 ?_
   by_cases h2 : c = 116
   ·have e : escF s (some c) = (9, s.go) := by subst h2; simp [escF]
    rw [e]
    exact Ev.pos h2 (Ev.now _)
   ·refine Ev.neg h2 ?_
    have yes : badEsc c = true → escF s (some c) = (c, s.go.fail (wrap64 (s.p - 1)) 9) := fun h => by simp [escF, h1, h2, h]
    have no : badEsc c = false → escF s (some c) = (c, s.go) := fun h => by simp [escF, h1, h2, h]
    have ye : badEsc c = true → Ev (fun _ => (regex_reader_fail.f t s.go.p s.go.d s.go.e s.go.b (wrap64 (s.p - 1)) 9).bind fun b => some (c, b.1, b.2.1, b.2.2.1, b.2.2.2.1, b.2.2.2.2)) ((escF s (some c)).1, t, (escF s (some c)).2.p, (escF s (some c)).2.d, (escF s (some c)).2.e, (escF s (some c)).2.b) := by
     intro h
     rw [yes h]
     exact Ev.bindc (fail_ev t s.go _ _) (Ev.now _)
    have j2 : ∀ x : Bool, (x = true → badEsc c = true) → (x = false → (badEsc c = decide (c < 32 ∨ 126 < c))) →
      Ev (fun k => regex_reader_escape.j2 k (wrap64 (s.p - 1)) c x t s.go.p s.go.d s.go.e s.go.b) ((escF s (some c)).1, t, (escF s (some c)).2.p, (escF s (some c)).2.d, (escF s (some c)).2.e, (escF s (some c)).2.b) := by
     intro x hx hx2
     refine Ev.succ ?_
     simp only [regex_reader_escape.j2]
     cases x with
     | true => exact Ev.pos rfl (ye (hx rfl))
     | false =>
      have hb := hx2 rfl
      refine Ev.neg (by simp) ?_
      by_cases h3 : c < 32
      ·exact Ev.pos h3 (ye (by rw [hb]; simp [h3]))
      ·refine Ev.neg h3 ?_
       by_cases h4 : c > 126
       ·exact Ev.pos h4 (ye (by rw [hb]; simp; omega))
       ·refine Ev.neg h4 ?_
        rw [no (by rw [hb]; simp; omega)]
        exact Ev.now _
    have j1 : ∀ x : Bool, (x = true → badEsc c = true) → (x = false → (badEsc c = decide ((65 ≤ c ∧ c ≤ 90) ∨ c < 32 ∨ 126 < c))) →
      Ev (fun k => regex_reader_escape.j1 k (wrap64 (s.p - 1)) c x t s.go.p s.go.d s.go.e s.go.b) ((escF s (some c)).1, t, (escF s (some c)).2.p, (escF s (some c)).2.d, (escF s (some c)).2.e, (escF s (some c)).2.b) := by
     intro x hx hx2
     refine Ev.succ ?_
     simp only [regex_reader_escape.j1]
     cases x with
     | true => exact Ev.pos rfl (ye (hx rfl))
     | false =>
      have hb := hx2 rfl
      refine Ev.neg (by simp) ?_
      by_cases h3 : c ≥ 65
      ·refine Ev.pos h3 (j2 _ (fun h => ?_) (fun h => ?_))
       ·rw [hb]; simp at h ⊢; omega
       ·rw [hb]; simp at h; apply decide_eq_decide.2; omega
      ·refine Ev.neg h3 (j2 _ (fun h => by cases h) (fun _ => ?_))
       rw [hb]; apply decide_eq_decide.2; omega
    have j0 : ∀ x : Bool, (x = true → badEsc c = true) → (x = false → (badEsc c = decide ((97 ≤ c ∧ c ≤ 122) ∨ (65 ≤ c ∧ c ≤ 90) ∨ c < 32 ∨ 126 < c))) →
      Ev (fun k => regex_reader_escape.j0 k (wrap64 (s.p - 1)) c x t s.go.p s.go.d s.go.e s.go.b) ((escF s (some c)).1, t, (escF s (some c)).2.p, (escF s (some c)).2.d, (escF s (some c)).2.e, (escF s (some c)).2.b) := by
     intro x hx hx2
     refine Ev.succ ?_
     simp only [regex_reader_escape.j0]
     cases x with
     | true => exact Ev.pos rfl (ye (hx rfl))
     | false =>
      have hb := hx2 rfl
      refine Ev.neg (by simp) ?_
      by_cases h3 : c ≥ 97
      ·refine Ev.pos h3 (j1 _ (fun h => ?_) (fun h => ?_))
       ·rw [hb]; simp at h ⊢; omega
       ·rw [hb]; simp at h; apply decide_eq_decide.2; omega
      ·refine Ev.neg h3 (j1 _ (fun h => by cases h) (fun _ => ?_))
       rw [hb]; apply decide_eq_decide.2; omega
    by_cases h3 : c ≥ 48
    ·refine Ev.pos h3 (j0 _ (fun h => ?_) (fun h => ?_))
     ·unfold badEsc; simp at h ⊢; omega
     ·unfold badEsc; simp at h; apply decide_eq_decide.2; omega
    ·refine Ev.neg h3 (j0 _ (fun h => by cases h) (fun _ => ?_))
     unfold badEsc; apply decide_eq_decide.2; omega
def withW (w : RSet) (c : Int) : RSet :=
 if c < 64 then ⟨orU w.f0 (c % 64).toNat, w.f1, w.f2, w.f3⟩ else if c < 128 then ⟨w.f0, orU w.f1 (c % 64).toNat, w.f2, w.f3⟩
 else if c < 192 then ⟨w.f0, w.f1, orU w.f2 (c % 64).toNat, w.f3⟩ else ⟨w.f0, w.f1, w.f2, orU w.f3 (c % 64).toNat⟩
theorem with_ev (w : RSet) (c : Int) (h0 : 0 ≤ c) (h1 : c < 256) : regex_Set_With.f w.f0 w.f1 w.f2 w.f3 c = some ((withW w c).f0, (withW w c).f1, (withW w c).f2, (withW w c).f3) := by
 unfold regex_Set_With.f withW
 rw [if_pos h0]
 split
 ·rfl
 ·split
  ·rfl
  ·split
   ·rfl
   ·rfl
def notW (w : RSet) : RSet := ⟨notU w.f0, notU w.f1, notU w.f2, notU w.f3⟩
theorem not_ev (w : RSet) : regex_Set_Not.f w.f0 w.f1 w.f2 w.f3 = some ((notW w).f0, (notW w).f1, (notW w).f2, (notW w).f3) := rfl
def addN (w : RSet) (c : Int) : Nat → RSet
 | 0 => w
 | n + 1 => addN (withW w c) (c + 1) n
def addR (w : RSet) (c z : Int) : RSet := addN w c (z + 1 - c).toNat
inductive Ch (t : ByteArray) (s : St) : Int → Int → St → Prop
 | plain {c : Int} : c ≠ 92 → Ch t s c c s
 | esc {o : Option Int} : Nx t s o → Ch t s 92 (escF s o).1 (escF s o).2
inductive Rg (t : ByteArray) (fr : Int) (s : St) (c : Int) : Int → St → Prop
 | no : 0 ≤ s.p → s.p < 4611686018427387904 → ¬ (s.p + 1 < (t.size : Int) ∧ bt t s.p = 45 ∧ bt t (s.p + 1) ≠ 93 ∧ s.e = 0) → Rg t fr s c c s
 | yes {z : Int} {s2 : St} : 0 ≤ s.p → s.p < 4611686018427387904 → s.p + 1 < (t.size : Int) → bt t s.p = 45 → bt t (s.p + 1) ≠ 93 → s.e = 0 →
   Ch t { s with p := s.p + 2 } (bt t (s.p + 1)) z s2 → Rg t fr s c z (if z < c then s2.fail fr 9 else s2)
inductive SL (t : ByteArray) (fr : Int) : Bool → RSet → St → RSet → St → Prop
 | bad {f : Bool} {w : RSet} {s : St} : Nx t s none → SL t fr f w s w (s.fail fr 9)
 | close {w : RSet} {s : St} : Nx t s (some 93) → SL t fr false w s w s.go
 | more {f : Bool} {w w' : RSet} {s s1 s2 s' : St} {c c1 z : Int} : Nx t s (some c) → (c = 93 → f = true) → Ch t s.go c c1 s1 → Rg t fr s1 c1 z s2 → SL t fr false (addR w c1 z) s2 w' s' → SL t fr f w s w' s'
inductive SetR (t : ByteArray) (s : St) : RSet → St → Prop
 | neg {w : RSet} {s' : St} : Nx t s (some 94) → SL t (wrap64 (s.p - 1)) true zW s.go w s' → SetR t s (notW w) s'
 | pos {w : RSet} {s' : St} {o : Option Int} : Nx t s o → o ≠ some 94 → SL t (wrap64 (s.p - 1)) true zW s w s' → SetR t s w s'
theorem Ch.range {t : ByteArray} {s s1 : St} {c c1 : Int} (h : Ch t s c c1 s1) (hc : 0 ≤ c ∧ c < 256) : 0 ≤ c1 ∧ c1 < 256 := by
 cases h with
 | plain => exact hc
 | esc h => exact escF_range h
inductive Leaf (t : ByteArray) (s : St) : Int → RNode → St → Prop
 | set {w : RSet} {s' : St} : SetR t s.go w s' → Leaf t s 91 ⟨1, w, []⟩ s'
 | dot : Leaf t s 46 ⟨1, notW zW, []⟩ s.go
 | beg : Leaf t s 94 ⟨7, zW, []⟩ s.go
 | fin : Leaf t s 36 ⟨8, zW, []⟩ s.go
 | sign {c : Int} : c = 42 ∨ c = 43 ∨ c = 63 → Leaf t s c ⟨1, withW zW c, []⟩ (s.go.fail (wrap64 (s.go.p - 1)) 9)
 | esc {o : Option Int} : Nx t s.go o → Leaf t s 92 ⟨1, withW zW (escF s.go o).1, []⟩ (escF s.go o).2
 | lit {c : Int} : c ≠ 91 → c ≠ 46 → c ≠ 94 → c ≠ 36 → c ≠ 42 → c ≠ 43 → c ≠ 63 → c ≠ 92 → Leaf t s c ⟨1, withW zW c, []⟩ s.go
inductive Cl
 | alt : Cl
 | altL : List RNode → Cl
 | cat : List RNode → Cl
 | atom : Cl
 | signs : RNode → Cl
def altN (l : List RNode) : RNode := match l with | [n] => n | l => ⟨3, zW, l⟩
def catN (l : List RNode) : RNode := match l with | [] => zN | [n] => n | l => ⟨2, zW, l⟩
def opOf (c : Int) : Option Int := if c = 42 then some 4 else if c = 43 then some 5 else if c = 63 then some 6 else none
def deeper (s : St) : St := let s1 : St := { s.go with d := wrap64 (s.d + 1) }; if 20 < s1.d then s1.fail (wrap64 (s1.p - 1)) 14 else s1
def shut (fr : Int) (s : St) (o : Option Int) : St := let s1 := if o = some 41 then s else s.fail fr 9; { s1.go with d := wrap64 (s1.d - 1) }
inductive R (t : ByteArray) : Cl → St → RNode → St → Prop
 | alt {s s1 s2 : St} {n m : RNode} : R t (.cat []) s n s1 → R t (.altL [n]) s1 m s2 → R t .alt s m s2
 | altMore {s s1 s2 : St} {acc : List RNode} {n m : RNode} : Nx t s (some 124) → acc.length < 2199023255552 → R t (.cat []) s.go n s1 → R t (.altL (acc ++ [n])) s1 m s2 → R t (.altL acc) s m s2
 | altEnd {s : St} {acc : List RNode} {o : Option Int} : Nx t s o → o ≠ some 124 → R t (.altL acc) s (altN acc) s
 | catEnd {s : St} {acc : List RNode} {o : Option Int} : Nx t s o → (o = none ∨ o = some 124 ∨ (o = some 41 ∧ 0 < s.d)) → R t (.cat acc) s (catN acc) s
 | catBad {s : St} {acc : List RNode} : Nx t s (some 41) → ¬ 0 < s.d → R t (.cat acc) s (catN acc) (s.fail s.p 9)
 | catMore {s s1 s2 s3 : St} {acc : List RNode} {n m r : RNode} {c : Int} : Nx t s (some c) → c ≠ 124 → c ≠ 41 → acc.length < 2199023255552 → R t .atom s n s1 → R t (.signs n) s1 m s2 → R t (.cat (acc ++ [m])) s2 r s3 → R t (.cat acc) s r s3
 | signsMore {s s' : St} {n m : RNode} {c op : Int} : Nx t s (some c) → opOf c = some op → R t (.signs ⟨op, zW, [n]⟩) s.go m s' → R t (.signs n) s m s'
 | signsEnd {s : St} {n : RNode} {o : Option Int} : Nx t s o → (∀ c, o = some c → opOf c = none) → R t (.signs n) s n s
 | group {s s1 : St} {n : RNode} {o : Option Int} : Nx t s (some 40) → R t .alt (deeper s) n s1 → Nx t s1 o → R t .atom s n (shut (wrap64 (s.go.p - 1)) s1 o)
 | leaf {s s' : St} {n : RNode} {c : Int} : Nx t s (some c) → c ≠ 40 → Leaf t s c n s' → R t .atom s n s'
end Go.Proofs.Ythlffghlkggimaa.Pr
