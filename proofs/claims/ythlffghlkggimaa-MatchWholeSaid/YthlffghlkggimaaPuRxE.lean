/- regex: the program's parser comes to what the relation says. -/
import Derived.Test.YthlffghlkggimaaPuRxC
import Derived.Test.YthlffghlkggimaaPuRxP
import Derived.Test.YthlffghlkggimaaPr9
namespace Go.Proofs.Ythlffghlkggimaa.Pr
open Go Go.RowKit Go.Proofs.YthlffghlkggimaaW.PrintWords Go.Proofs.YthlffghlkggimaaW.PrintLast Go.Proofs.YthlffghlkggimaaW.PrintMore
theorem Ev.yes {α : Type} {c : Prop} [Decidable c] {g f : Nat → Option α} {r : α} (k : Ev g r) (h : c := by first | rfl | trivial | simp) : Ev (fun n => if c then g n else f n) r := Ev.pos h k
def setOut (neg : Bool) (w : RSet) (t : ByteArray) (s : St) : Int × Int × Int × Int × ByteArray × Int × Int × Int × Int :=
 ((if neg = true then notW w else w).f0, (if neg = true then notW w else w).f1, (if neg = true then notW w else w).f2, (if neg = true then notW w else w).f3, t, s.p, s.d, s.e, s.b)
theorem set_end (neg : Bool) (w : RSet) (t : ByteArray) (s : St) : Ev (fun _ => if neg = true then ((regex_Set_Not.f w.f0 w.f1 w.f2 w.f3).bind fun b => some (b.1, b.2.1, b.2.2.1, b.2.2.2, t, s.p, s.d, s.e, s.b)) else some (w.f0, w.f1, w.f2, w.f3, t, s.p, s.d, s.e, s.b)) (setOut neg w t s) := by
 cases neg with
 | true => exact Ev.yes (Ev.bindc (not_ev w) (Ev.now _))
 | false => exact Ev.neg (by simp) (Ev.now _)
theorem set_l1 {t : ByteArray} {fr : Int} {neg : Bool} {s : St} {z : Int} {r : Int × Int × Int × Int × ByteArray × Int × Int × Int × Int} (hz : 0 ≤ z ∧ z < 256) (n : Nat) : ∀ (c : Int) (w : RSet), 0 ≤ c → c ≤ 256 → (z + 1 - c).toNat = n →
  Ev (fun k => regex_reader_set.l0 k fr neg false t s.p s.d s.e s.b (addN w c n).f0 (addN w c n).f1 (addN w c n).f2 (addN w c n).f3) r →
  Ev (fun k => regex_reader_set.l1 k fr neg z c t s.p s.d s.e s.b w.f0 w.f1 w.f2 w.f3) r := by
 induction n with
 | zero =>
  intro c w h0 h1 hn h
  refine Ev.succ ?_
  simp only [regex_reader_set.l1]
  rw [w64 (n := z) (by omega) (by omega)]
  exact Ev.neg (by omega) h
 | succ n ih =>
  intro c w h0 h1 hn h
  refine Ev.succ ?_
  simp only [regex_reader_set.l1]
  rw [w64 (n := z) (by omega) (by omega), w64 (n := c + 1) (by omega) (by omega), show c % 256 = c by omega]
  refine Ev.pos (by omega) (Ev.bindc (with_ev w c (by omega) (by omega)) ?_)
  exact ih (c + 1) (withW w c) (by omega) (by omega) (by omega) h
theorem set_l0 {t : ByteArray} {fr : Int} {f : Bool} {w w' : RSet} {s s' : St} (h : SL t fr f w s w' s') (neg : Bool) :
  Ev (fun k => regex_reader_set.l0 k fr neg f t s.p s.d s.e s.b w.f0 w.f1 w.f2 w.f3) (setOut neg w' t s') := by
 induction h with
 | bad h =>
  refine Ev.succ ?_
  simp only [regex_reader_set.l0]
  refine Ev.bindc (next_ev h) (Ev.neg (by simp) (Ev.bindc (fail_ev _ _ _ _) ?_))
  exact set_end _ _ _ _
 | close h =>
  refine Ev.succ ?_
  simp only [regex_reader_set.l0]
  refine Ev.bindc (next_ev h) (Ev.pos (by simp) (Ev.pos (by simp) ?_))
  refine Ev.succ ?_
  simp only [regex_reader_set.j2]
  refine Ev.pos (by simp) ?_
  exact set_end _ _ t (St.go _)
 | @more f w w' s s1 s2 s' c c1 z h hf hc hr _ ih =>
  have hc1 := hc.range h.range
  have J5 : ∀ x : Bool, 0 ≤ z ∧ z < 256 → x = x → Ev (fun k => regex_reader_set.j5 k fr neg c1 z t s2.p s2.d s2.e s2.b w.f0 w.f1 w.f2 w.f3) (setOut neg w' t s') := by
   intro _ hz _
   refine Ev.succ ?_
   simp only [regex_reader_set.j5]
   rw [w64 (n := c1) (by omega) (by omega)]
   exact set_l1 hz _ c1 w hc1.1 (by omega) rfl ih
  have J4 : z = c1 → s2 = s1 → Ev (fun k => regex_reader_set.j4 k fr neg c1 c1 false t s1.p s1.d s1.e s1.b w.f0 w.f1 w.f2 w.f3) (setOut neg w' t s') := by
   intro e1 e2
   subst e1 e2
   refine Ev.succ ?_
   simp only [regex_reader_set.j4]
   exact Ev.neg (by simp) (J5 true hc1 rfl)
  have J3 : Ev (fun k => regex_reader_set.j3 k fr neg c1 t s1.p s1.d s1.e s1.b w.f0 w.f1 w.f2 w.f3) (setOut neg w' t s') := by
   refine Ev.succ ?_
   simp only [regex_reader_set.j3]
   cases hr with
   | no h0 h1 hno =>
    rw [w64 (n := s1.p + 1) (by omega) (by omega)]
    by_cases a : s1.p + 1 < (t.size : Int)
    ·refine Ev.pos a (Ev.pos h0 (Ev.pos (by omega) ?_))
     by_cases b : bt t s1.p = 45
     ·refine Ev.pos b (Ev.pos (by omega) ?_)
      by_cases d : bt t (s1.p + 1) = 93
      ·exact Ev.pos d (J4 rfl rfl)
      ·refine Ev.neg d ?_
       have e : (s1.e == 0) = false := by
        have : s1.e ≠ 0 := fun he => hno ⟨a, b, d, he⟩
        simpa using this
       rw [e]
       exact J4 rfl rfl
     ·exact Ev.neg b (J4 rfl rfl)
    ·exact Ev.neg a (J4 rfl rfl)
   | @yes z s2' h0 h1 a b d e hch =>
    have hz := hch.range (c := bt t (s1.p + 1)) (by have := bt_range t (s1.p + 1); omega)
    rw [w64 (n := s1.p + 1) (by omega) (by omega)]
    refine Ev.pos a (Ev.pos h0 (Ev.pos (by omega) (Ev.pos b (Ev.pos (by omega) (Ev.neg d ?_)))))
    rw [show (s1.e == 0) = true by simpa using e]
    refine Ev.succ ?_
    simp only [regex_reader_set.j4]
    rw [w64 (n := s1.p + 2) (by omega) (by omega), show s1.p + 2 - 1 = s1.p + 1 by omega, w64 (n := s1.p + 1) (by omega) (by omega)]
    refine Ev.yes (Ev.pos (by omega) (Ev.pos a ?_))
    have fin : z < c1 → Ev (fun k => (regex_reader_fail.f t s2'.p s2'.d s2'.e s2'.b fr 9).bind fun b => regex_reader_set.j5 k fr neg c1 z b.1 b.2.1 b.2.2.1 b.2.2.2.1 b.2.2.2.2 w.f0 w.f1 w.f2 w.f3) (setOut neg w' t s') := by
     intro hlt
     rw [if_pos hlt] at J5
     exact Ev.bindc (fail_ev t s2' _ _) (J5 true hz rfl)
    have fin2 : ¬ z < c1 → Ev (fun k => regex_reader_set.j5 k fr neg c1 z t s2'.p s2'.d s2'.e s2'.b w.f0 w.f1 w.f2 w.f3) (setOut neg w' t s') := by
     intro hlt
     rw [if_neg hlt] at J5
     exact J5 true hz rfl
    obtain ⟨B1, hB⟩ : ∃ x, bt t (s1.p + 1) = x := ⟨_, rfl⟩
    rw [hB] at hch d ⊢
    cases hch with
    | plain h92 =>
     refine Ev.neg h92 ?_
     by_cases hlt : z < c1
     ·exact Ev.pos hlt (fin hlt)
     ·exact Ev.neg hlt (fin2 hlt)
    | @esc o hnx =>
     refine Ev.yes (Ev.bind' (esc_ev hnx) ?_)
     dsimp only
     by_cases hlt : (escF ⟨s1.p + 2, s1.d, s1.e, s1.b⟩ o).1 < c1
     ·exact Ev.pos hlt (fin hlt)
     ·exact Ev.neg hlt (fin2 hlt)
  have J2 : Ev (fun k => regex_reader_set.j2 k fr neg c false t s.go.p s.go.d s.go.e s.go.b w.f0 w.f1 w.f2 w.f3) (setOut neg w' t s') := by
   refine Ev.succ ?_
   simp only [regex_reader_set.j2]
   refine Ev.neg (by simp) ?_
   cases hc with
   | plain h92 => exact Ev.neg h92 J3
   | esc hnx => exact Ev.yes (Ev.bind' (esc_ev hnx) J3)
  refine Ev.succ ?_
  simp only [regex_reader_set.l0]
  refine Ev.bindc (next_ev h) (Ev.pos (by simp) ?_)
  simp only [Option.getD_some]
  by_cases h93 : c = 93
  ·refine Ev.pos h93 ?_
   rw [hf h93]
   exact J2
  ·exact Ev.neg h93 J2
theorem set_ev {t : ByteArray} {s s' : St} {w : RSet} (h : SetR t s w s') : Ev (fun k => regex_reader_set.f k t s.p s.d s.e s.b) (w.f0, w.f1, w.f2, w.f3, t, s'.p, s'.d, s'.e, s'.b) := by
 unfold regex_reader_set.f
 cases h with
 | neg hn hl =>
  refine Ev.bindc (next_ev hn) (Ev.pos (by simp) ?_)
  refine Ev.succ ?_
  simp only [regex_reader_set.j0]
  exact set_l0 hl true
 | pos hn ho hl =>
  have hne : ∀ o, o ≠ some 94 → (o.getD 0 : Int) ≠ 94 := by
   intro o ho e
   cases o with
   | none => simp at e
   | some c => exact ho (by rw [← e]; rfl)
  refine Ev.bindc (next_ev hn) (Ev.neg (hne _ ho) ?_)
  refine Ev.succ ?_
  simp only [regex_reader_set.j0]
  exact set_l0 hl false
def out (t : ByteArray) (n : RNode) (s : St) : Int × Int × Int × Int × Int × (List RNode) × ByteArray × Int × Int × Int × Int := (n.f0, n.f1.f0, n.f1.f1, n.f1.f2, n.f1.f3, n.f2, t, s.p, s.d, s.e, s.b)
theorem leaf_ev {t : ByteArray} {s s' : St} {n : RNode} {c : Int} (hx : Nx t s (some c)) (hc : c ≠ 40) (h : Leaf t s c n s') : Ev (fun k => regex_reader_atom.f k t s.p s.d s.e s.b) (out t n s') := by
 refine Ev.succ ?_
 simp only [regex_reader_atom.f]
 refine Ev.bindc (next_ev hx) ?_
 simp only [Option.getD_some]
 have hr := hx.range
 refine Ev.neg hc ?_
 have wz := with_ev zW
 cases h with
 | set h => exact Ev.yes (Ev.bind' (set_ev h) (Ev.now _))
 | dot => exact Ev.neg (by decide) (Ev.yes (Ev.bindc (not_ev zW) (Ev.now _)))
 | beg => exact Ev.neg (by decide) (Ev.neg (by decide) (Ev.yes (Ev.now _)))
 | fin => exact Ev.neg (by decide) (Ev.neg (by decide) (Ev.neg (by decide) (Ev.yes (Ev.now _))))
 | sign h3 =>
  have J : Ev (fun k => regex_reader_atom.j2 k c c true t s.go.p s.go.d s.go.e s.go.b) (out t ⟨1, withW zW c, []⟩ (s.go.fail (wrap64 (s.go.p - 1)) 9)) := by
   refine Ev.succ ?_
   simp only [regex_reader_atom.j2]
   exact Ev.yes (Ev.bindc (fail_ev t s.go _ _) (Ev.bindc (wz c hr.1 hr.2) (Ev.now _)))
  refine Ev.neg (by omega) (Ev.neg (by omega) (Ev.neg (by omega) (Ev.neg (by omega) ?_)))
  rcases h3 with rfl | rfl | rfl
  ·exact Ev.yes J
  ·exact Ev.neg (by decide) (Ev.yes J)
  ·exact Ev.neg (by decide) (Ev.neg (by decide) J)
 | @esc o hn =>
  refine Ev.neg (by omega) (Ev.neg (by omega) (Ev.neg (by omega) (Ev.neg (by omega) (Ev.neg (by omega) (Ev.neg (by omega) ?_)))))
  refine Ev.succ ?_
  simp only [regex_reader_atom.j2]
  have hq := escF_range hn
  exact Ev.neg (by simp) (Ev.yes (Ev.bind' (esc_ev hn) (Ev.bindc (wz _ hq.1 hq.2) (Ev.now _))))
 | lit h1 h2 h3 h4 h5 h6 h7 h8 =>
  refine Ev.neg h1 (Ev.neg h2 (Ev.neg h3 (Ev.neg h4 (Ev.neg h5 (Ev.neg h6 ?_)))))
  rw [show (c == 63) = false by simpa using h7]
  refine Ev.succ ?_
  simp only [regex_reader_atom.j2]
  exact Ev.neg (by simp) (Ev.neg h8 (Ev.bindc (wz c hr.1 hr.2) (Ev.now _)))
def Mot (t : ByteArray) : Cl → St → RNode → St → Prop
 | .alt, s, n, s' => Ev (fun k => regex_reader_alt.f k t s.p s.d s.e s.b) (out t n s')
 | .altL acc, s, n, s' => ∀ o, Nx t s o → Ev (fun k => regex_reader_alt.l0 k acc (o.getD 0) o.isSome t s.p s.d s.e s.b) (out t n s')
 | .cat acc, s, n, s' => Ev (fun k => regex_reader_cat.l0 k acc t s.p s.d s.e s.b) (out t n s')
 | .atom, s, n, s' => Ev (fun k => regex_reader_atom.f k t s.p s.d s.e s.b) (out t n s')
 | .signs m, s, n, s' => ∀ (acc : List RNode) (r : Int × Int × Int × Int × Int × (List RNode) × ByteArray × Int × Int × Int × Int), acc.length < 2199023255552 → Ev (fun k => regex_reader_cat.l0 k (acc ++ [n]) t s'.p s'.d s'.e s'.b) r →
   Ev (fun k => regex_reader_cat.l1 k acc t s.p s.d s.e s.b m.f0 m.f1.f0 m.f1.f1 m.f1.f2 m.f1.f3 m.f2) r
theorem node_eta (n : RNode) : (⟨n.f0, ⟨n.f1.f0, n.f1.f1, n.f1.f2, n.f1.f3⟩, n.f2⟩ : RNode) = n := by cases n; rfl
theorem cat_f {t : ByteArray} {s : St} {r : Int × Int × Int × Int × Int × (List RNode) × ByteArray × Int × Int × Int × Int} (h : Ev (fun k => regex_reader_cat.l0 k [] t s.p s.d s.e s.b) r) : Ev (fun k => regex_reader_cat.f k t s.p s.d s.e s.b) r := by
 refine Ev.succ ?_
 simp only [regex_reader_cat.f]
 exact h
theorem R.nx {t : ByteArray} {acc : List RNode} {s s' : St} {n : RNode} (h : R t (.altL acc) s n s') : ∃ o, Nx t s o := by
 cases h with
 | altMore h => exact ⟨_, h⟩
 | altEnd h => exact ⟨_, h⟩
theorem cat_j3 (t : ByteArray) (acc : List RNode) (s : St) : Ev (fun k => regex_reader_cat.j3 k acc t s.p s.d s.e s.b) (out t (catN acc) s) := by
 refine Ev.succ ?_
 simp only [regex_reader_cat.j3]
 match acc with
 | [] => exact Ev.yes (Ev.now _)
 | [n] => exact Ev.neg (by simp) (Ev.yes (Ev.pos (by simp) (Ev.now _)))
 | a :: b :: r => exact Ev.neg (by simp; omega) (Ev.neg (by simp; omega) (Ev.now _))
theorem R_ev {t : ByteArray} {cl : Cl} {s s' : St} {n : RNode} (h : R t cl s n s') : Mot t cl s n s' := by
 induction h with
 | @alt s s1 s2 n m h1 h2 i1 i2 =>
  obtain ⟨o, ho⟩ := h2.nx
  show Ev _ _
  refine Ev.succ ?_
  simp only [regex_reader_alt.f]
  refine Ev.bind' (cat_f i1) (Ev.bindc (next_ev ho) ?_)
  dsimp only [out]
  rw [node_eta]
  exact i2 o ho
 | @altMore s s1 s2 acc n m hx hl h1 h2 i1 i2 =>
  obtain ⟨o, ho⟩ := h2.nx
  intro o' ho'
  obtain rfl := hx.det ho'
  refine Ev.succ ?_
  simp only [regex_reader_alt.l0]
  refine Ev.pos (by simp) ?_
  refine Ev.succ ?_
  simp only [regex_reader_alt.j1]
  refine Ev.pos (by simp) (Ev.bind' (cat_f i1) (Ev.pos hl (Ev.bindc (next_ev ho) ?_)))
  dsimp only [out]
  rw [node_eta]
  exact i2 o ho
 | @altEnd s acc o hx ho =>
  intro o' ho'
  obtain rfl := hx.det ho'
  have J : Ev (fun k => regex_reader_alt.j1 k acc false t s.p s.d s.e s.b) (out t (altN acc) s) := by
   refine Ev.succ ?_
   simp only [regex_reader_alt.j1]
   refine Ev.neg (by simp) ?_
   match acc with
   | [] => exact Ev.neg (by simp) (Ev.now _)
   | [n] => exact Ev.yes (Ev.pos (by simp) (Ev.now _))
   | a :: b :: r => exact Ev.neg (by simp; omega) (Ev.now _)
  refine Ev.succ ?_
  simp only [regex_reader_alt.l0]
  cases o with
  | none => exact Ev.neg (by simp) J
  | some c =>
   refine Ev.yes ?_
   simp only [Option.getD_some]
   rw [show (c == 124) = false by simpa using fun h => ho (by rw [h])]
   exact J
 | @catEnd s acc o hx ho =>
  have J : ∀ c, Ev (fun k => regex_reader_cat.j1 k acc c true t s.p s.d s.e s.b) (out t (catN acc) s) := by
   intro c
   refine Ev.succ ?_
   simp only [regex_reader_cat.j1]
   exact Ev.yes (cat_j3 _ _ _)
  show Ev _ _
  refine Ev.succ ?_
  simp only [regex_reader_cat.l0]
  refine Ev.bindc (next_ev hx) ?_
  rcases ho with rfl | rfl | ⟨rfl, hd⟩
  ·exact Ev.neg (by simp) (J _)
  ·exact Ev.yes (Ev.yes (J _))
  ·refine Ev.yes (Ev.neg (by simp) (Ev.yes ?_))
   rw [show decide (s.d > 0) = true by simpa using hd]
   exact J _
 | @catBad s acc hx hd =>
  show Ev _ _
  refine Ev.succ ?_
  simp only [regex_reader_cat.l0]
  refine Ev.bindc (next_ev hx) (Ev.yes (Ev.neg (by simp) (Ev.yes ?_)))
  rw [show decide (s.d > 0) = false by simpa using hd]
  refine Ev.succ ?_
  simp only [regex_reader_cat.j1]
  exact Ev.neg (by simp) (Ev.yes (Ev.bindc (fail_ev _ _ _ _) (cat_j3 _ _ _)))
 | @catMore s s1 s2 s3 acc n m r c hx h1 h2 hl ha hs hc ia is ic =>
  show Ev _ _
  refine Ev.succ ?_
  simp only [regex_reader_cat.l0]
  refine Ev.bindc (next_ev hx) (Ev.yes (Ev.neg h1 (Ev.neg h2 ?_)))
  refine Ev.succ ?_
  simp only [regex_reader_cat.j1]
  refine Ev.neg (by simp) (Ev.neg h2 (Ev.bind' ia ?_))
  exact is acc _ hl ic
 | @signsMore s s' n m c op hx ho hs is =>
  intro acc r hl hr
  refine Ev.succ ?_
  simp only [regex_reader_cat.l1]
  refine Ev.bindc (next_ev hx) ?_
  simp only [Option.getD_some, node_eta]
  have hi := is acc r hl hr
  unfold opOf at ho
  by_cases a : c = 42
  ·rw [if_pos a] at ho; cases ho; exact Ev.pos a (Ev.yes hi)
  ·rw [if_neg a] at ho
   refine Ev.neg a ?_
   by_cases b : c = 43
   ·rw [if_pos b] at ho; cases ho; exact Ev.pos b (Ev.yes hi)
   ·rw [if_neg b] at ho
    refine Ev.neg b ?_
    by_cases d : c = 63
    ·rw [if_pos d] at ho; cases ho; exact Ev.pos d (Ev.yes hi)
    ·rw [if_neg d] at ho; cases ho
 | @signsEnd s n o hx ho =>
  intro acc r hl hr
  refine Ev.succ ?_
  simp only [regex_reader_cat.l1]
  refine Ev.bindc (next_ev hx) ?_
  simp only [node_eta]
  cases o with
  | none => exact Ev.neg (by simp) (Ev.neg (by simp) (Ev.neg (by simp) (Ev.neg (by simp) (Ev.pos hl hr))))
  | some c =>
   have h := ho c rfl
   unfold opOf at h
   simp only [Option.getD_some]
   by_cases a : c = 42
   ·rw [if_pos a] at h; cases h
   ·rw [if_neg a] at h
    by_cases b : c = 43
    ·rw [if_pos b] at h; cases h
    ·rw [if_neg b] at h
     by_cases d : c = 63
     ·rw [if_pos d] at h; cases h
     ·exact Ev.neg a (Ev.neg b (Ev.neg d (Ev.yes (Ev.pos hl hr))))
 | @group s s1 n o hx ha hx1 ia =>
  have J1 : ∀ x : Bool, (x = true → o ≠ some 41) → (x = false → o = some 41) → Ev (fun k => regex_reader_atom.j1 k (wrap64 (s.go.p - 1)) x t s1.p s1.d s1.e s1.b n.f0 n.f1.f0 n.f1.f1 n.f1.f2 n.f1.f3 n.f2) (out t n (shut (wrap64 (s.go.p - 1)) s1 o)) := by
   intro x h1 h2
   refine Ev.succ ?_
   simp only [regex_reader_atom.j1]
   unfold shut
   cases x with
   | true =>
    rw [if_neg (h1 rfl)]
    exact Ev.yes (Ev.bindc (fail_ev _ _ _ _) (Ev.now _))
   | false =>
    rw [if_pos (h2 rfl)]
    exact Ev.neg (by simp) (Ev.now _)
  have J0 : Ev (fun k => regex_reader_atom.j0 k (wrap64 (s.go.p - 1)) t (deeper s).p (deeper s).d (deeper s).e (deeper s).b) (out t n (shut (wrap64 (s.go.p - 1)) s1 o)) := by
   refine Ev.succ ?_
   simp only [regex_reader_atom.j0]
   refine Ev.bind' ia (Ev.bindc (next_ev hx1) ?_)
   cases o with
   | none => exact Ev.neg (by simp) (J1 true (fun _ => by simp) (fun h => by cases h))
   | some c =>
    refine Ev.yes (J1 _ (fun h e => ?_) (fun h => ?_))
    ·cases e; simp at h
    ·simp at h; rw [h]
  show Ev _ _
  refine Ev.succ ?_
  simp only [regex_reader_atom.f]
  refine Ev.bindc (next_ev hx) (Ev.yes ?_)
  unfold deeper at J0
  by_cases hd : 20 < wrap64 (s.d + 1)
  ·rw [if_pos hd] at J0
   exact Ev.pos hd (Ev.bindc (fail_ev t ⟨wrap64 (s.p + 1), wrap64 (s.d + 1), s.e, s.b⟩ _ _) J0)
  ·rw [if_neg hd] at J0
   exact Ev.neg hd J0
 | leaf hx hc hl => exact leaf_ev hx hc hl
theorem parse_ev {t : ByteArray} (ht : (t.size : Int) ≤ 300) {n : RNode} {s : St} (h : R t .alt ⟨0, 0, 0, 0⟩ n s) :
  Ev (fun k => regex_Parse.f k t) (if s.e = 0 then (n.f0, n.f1.f0, n.f1.f1, n.f1.f2, n.f1.f3, n.f2, 0, 0) else (0, 0, 0, 0, 0, [], s.b, s.e)) := by
 unfold regex_Parse.f
 refine Ev.neg (by omega) (Ev.bind' (R_ev h) ?_)
 dsimp only [out]
 by_cases he : s.e = 0
 ·simp only [if_pos he]; exact Ev.now _
 ·simp only [if_neg he]; exact Ev.now _
end Go.Proofs.Ythlffghlkggimaa.Pr
