/- match: Find comes to what the document says of its states (the printed functions fresh, close, Find, In). -/
import Derived.Test.YthlffghlkggimaaPuMtS
import Derived.Test.YthlffghlkggimaaPr11
import Derived.Test.YthlffghlkggimaaPr12
import Derived.Test.YthlffghlkggimaaPr14
import Derived.Test.YthlffghlkggimaaPr15
set_option linter.unusedVariables false
namespace Go.Proofs.Ythlffghlkggimaa.Pr
open Go Go.RowKit Go.Proofs.YthlffghlkggimaaW.PrintWords Go.Proofs.YthlffghlkggimaaW.PrintLast Go.Proofs.YthlffghlkggimaaW.PrintMore
theorem rd_nw (l : List Int) (x : Nat) : rd l (x : Int) = nw l x := by unfold rd nw; rw [Int.toNat_natCast]
theorem rdS {L : List MSt} {x : Nat} {q : MSt} (h : L[x]? = some q) : rd_T68 L (x : Int) = q := by
 simp only [rd_T68, Int.toNat_natCast]
 rw [List.getD_eq_getElem?_getD, h]
 rfl
theorem nw_rep (n x : Nat) : nw (List.replicate n NO) x = if x < n then NO else 0 := by
 unfold nw
 rw [List.getD_eq_getElem?_getD, List.getElem?_replicate]
 split <;> rfl
theorem fresh_l0 (L : List MSt) (st : Int) (n : Nat) (hn : n ≤ 1000000) (d : Nat) : ∀ i : Nat, i + d = n → Ev (fun k => match_Prog_fresh.l0 k (List.replicate i NO ++ List.replicate d 0) (n : Int) (i : Int) L st) (List.replicate n NO, st) := by
 induction d with
 | zero =>
  intro i hi
  refine Ev.succ ?_
  simp only [match_Prog_fresh.l0]
  refine Ev.neg (by omega) ?_
  rw [show i = n by omega, List.replicate_zero, List.append_nil]
  exact Ev.now _
 | succ d ih =>
  intro i hi
  refine Ev.succ ?_
  simp only [match_Prog_fresh.l0]
  refine Ev.pos (by omega) (Ev.pos (by omega) (Ev.pos (by simp; omega) ?_))
  have h := ih (i + 1) (by omega)
  have e : (List.replicate i NO ++ List.replicate (d + 1) (0 : Int)).set ((i : Nat) : Int).toNat 1099511627776 = List.replicate (i + 1) NO ++ List.replicate d 0 := by
   rw [Int.toNat_natCast, List.set_append_right _ _ (by simp), List.length_replicate, Nat.sub_self, List.replicate_succ, List.set_cons_zero, List.replicate_succ', List.append_assoc]
   rfl
  rw [e, w64 (n := (i : Int) + 1) (by omega) (by omega)]
  exact h
theorem fresh_ev (L : List MSt) (st : Int) (hn : L.length ≤ 1000000) : Ev (fun k => match_Prog_fresh.f k L st) (List.replicate L.length NO, st) := by
 unfold match_Prog_fresh.f
 refine Ev.pos (by omega) (Ev.pos (by omega) (Ev.bindc rfl ?_))
 have h := fresh_l0 L st L.length hn L.length 0 (by omega)
 simp only [Int.toNat_natCast, List.length_replicate]
 exact h
def gtN (st : Int) (now : List Int) (n : Nat) : Nat := (List.range n).countP (fun x => decide (st < nw now x))
theorem countP_lt {α : Type} {p q : α → Bool} (l : List α) (h : ∀ x ∈ l, p x = true → q x = true) {a : α} (ha : a ∈ l) (hq : q a = true) (hp : p a = false) : l.countP p < l.countP q := by
 induction l with
 | nil => cases ha
 | cons y r ih =>
  rw [List.countP_cons, List.countP_cons]
  have hr : r.countP p ≤ r.countP q := List.countP_mono_left (fun x hx => h x (List.mem_cons_of_mem _ hx))
  rcases List.mem_cons.1 ha with rfl | ha
  ·rw [hq, hp]; simp; omega
  ·have := ih (fun x hx => h x (List.mem_cons_of_mem _ hx)) ha
   have hy := h y List.mem_cons_self
   cases hpy : p y with
   | false => simp; omega
   | true => rw [hy hpy]; simp; omega
theorem gtN_le {st : Int} {a b : List Int} (n : Nat) (h : ∀ x, nw b x ≤ nw a x) : gtN st b n ≤ gtN st a n :=
 List.countP_mono_left (fun x _ hx => by simp only [decide_eq_true_eq] at hx ⊢; have := h x; omega)
theorem gtN_set {st : Int} {now : List Int} {a n : Nat} (ha : a < now.length) (hn : a < n) (h : st < nw now a) : gtN st (now.set a st) n < gtN st now n := by
 refine countP_lt _ (fun x _ hx => ?_) (List.mem_range.2 hn) (by simpa using h) (by simp only [decide_eq_false_iff_not]; rw [nw_set ha, if_pos rfl]; omega)
 simp only [decide_eq_true_eq] at hx ⊢
 rw [nw_set ha] at hx
 split at hx
 ·omega
 ·exact hx
theorem close_ev {L : List MSt} (ht : Tg L) (x0 : Int) (p N : Nat) (fi la : Bool) (hfi : fi = decide (p = 0)) (hla : la = decide (p = N)) (st : Int) (m : Nat) :
  ∀ (now : List Int) (a : Nat), now.length = L.length → a < L.length → gtN st now L.length ≤ m → ∃ now', CloS L N p st now a now' ∧ Ev (fun k => match_Prog_close.f k L x0 now (a : Int) st fi la) (x0, now') := by
 induction m with
 | zero =>
  intro now a hl ha hm
  have hle : nw now a ≤ st := by
   by_cases h : nw now a ≤ st
   ·exact h
   ·have := gtN_set (st := st) (n := L.length) (by omega) ha (by omega : st < nw now a)
    omega
  refine ⟨now, .was hle, Ev.succ ?_⟩
  simp only [match_Prog_close.f, rd_nw]
  exact Ev.pos (by omega) (Ev.pos (by omega) (Ev.pos hle (Ev.now _)))
 | succ m ih =>
  intro now a hl ha hm
  by_cases hle : nw now a ≤ st
  ·refine ⟨now, .was hle, Ev.succ ?_⟩
   simp only [match_Prog_close.f, rd_nw]
   exact Ev.pos (by omega) (Ev.pos (by omega) (Ev.pos hle (Ev.now _)))
  ·have hgt : st < nw now a := by omega
   obtain ⟨q, hq⟩ : ∃ q, L[a]? = some q := ⟨_, List.getElem?_eq_getElem ha⟩
   obtain ⟨t0, t1, t2, t3⟩ := ht q (List.mem_of_getElem? hq)
   have e2 : q.f2 = ((q.f2.toNat : Nat) : Int) := by omega
   have e3 : q.f3 = ((q.f3.toNat : Nat) : Int) := by omega
   have hl1 : (now.set a st).length = L.length := by simp [hl]
   have hm1 : gtN st (now.set a st) L.length ≤ m := by
    have := gtN_set (st := st) (n := L.length) (by omega) ha hgt
    omega
   have hE : ∀ y, Ep L N p a y → (q.f0 = 1 ∧ (y = q.f2.toNat ∨ y = q.f3.toNat)) ∨ (q.f0 = 2 ∧ p = 0 ∧ y = q.f2.toNat) ∨ (q.f0 = 3 ∧ p = N ∧ y = q.f2.toNat) := by
    rintro y ⟨s, hs, h⟩
    rw [hq] at hs
    obtain rfl := Option.some.inj hs
    exact h
   obtain ⟨n1, c1, v1⟩ := ih (now.set a st) q.f2.toNat hl1 (by omega) hm1
   rw [← e2] at v1
   have single : ((q.f0 = 2 ∧ p = 0) ∨ (q.f0 = 3 ∧ p = N)) → CloS L N p st now a n1 := by
    intro h
    have hab : Ep L N p a q.f2.toNat := ⟨q, hq, by
     rcases h with ⟨h, h'⟩ | ⟨h, h'⟩
     ·exact .inr (.inl ⟨h, h', rfl⟩)
     ·exact .inr (.inr ⟨h, h', rfl⟩)⟩
    refine .one hgt (by omega) hab (fun y hy => ?_) c1
    rcases hE y hy with ⟨h1, _⟩ | ⟨_, _, h1⟩ | ⟨_, _, h1⟩
    ·rcases h with ⟨h, _⟩ | ⟨h, _⟩ <;> omega
    ·exact h1
    ·exact h1
   have alone : q.f0 ≠ 1 → ¬ (q.f0 = 2 ∧ p = 0) → ¬ (q.f0 = 3 ∧ p = N) → CloS L N p st now a (now.set a st) := fun h1 h2 h3 =>
    .leaf hgt (by omega) (fun y hy => by
     rcases hE y hy with ⟨h, _⟩ | ⟨h, h', _⟩ | ⟨h, h', _⟩
     ·exact h1 h
     ·exact h2 ⟨h, h'⟩
     ·exact h3 ⟨h, h'⟩)
   by_cases h1 : q.f0 = 1
   ·have hl2 : n1.length = L.length := c1.len.trans hl1
    obtain ⟨n2, c2, v2⟩ := ih n1 q.f3.toNat hl2 (by omega) (Nat.le_trans (gtN_le _ c1.le) hm1)
    rw [← e3] at v2
    refine ⟨n2, .two hgt (by omega) ⟨q, hq, .inl ⟨h1, .inl rfl⟩⟩ ⟨q, hq, .inl ⟨h1, .inr rfl⟩⟩ (fun y hy => by
     rcases hE y hy with ⟨_, h⟩ | ⟨h, _⟩ | ⟨h, _⟩
     ·exact h
     ·omega
     ·omega) c1 c2, Ev.succ ?_⟩
    simp only [match_Prog_close.f, rd_nw, rdS hq, Int.toNat_natCast]
    exact Ev.pos (by omega) (Ev.pos (by omega) (Ev.neg hle (Ev.bindc rfl (Ev.pos (by omega) (Ev.pos h1 (Ev.bind' v1 (Ev.bind' v2 (Ev.now _))))))))
   ·by_cases h2 : q.f0 = 2
    ·by_cases hp : p = 0
     ·refine ⟨n1, single (.inl ⟨h2, hp⟩), Ev.succ ?_⟩
      simp only [match_Prog_close.f, rd_nw, rdS hq, Int.toNat_natCast]
      refine Ev.pos (by omega) (Ev.pos (by omega) (Ev.neg hle (Ev.bindc rfl (Ev.pos (by omega) (Ev.neg h1 (Ev.pos h2 (Ev.succ ?_)))))))
      simp only [match_Prog_close.j0]
      exact Ev.pos (by rw [hfi]; simpa using hp) (Ev.bind' v1 (Ev.now _))
     ·refine ⟨now.set a st, alone h1 (fun h => hp h.2) (fun h => by omega), Ev.succ ?_⟩
      simp only [match_Prog_close.f, rd_nw, rdS hq, Int.toNat_natCast]
      refine Ev.pos (by omega) (Ev.pos (by omega) (Ev.neg hle (Ev.bindc rfl (Ev.pos (by omega) (Ev.neg h1 (Ev.pos h2 (Ev.succ ?_)))))))
      simp only [match_Prog_close.j0]
      exact Ev.neg (by rw [hfi]; simpa using hp) (Ev.neg (by omega) (Ev.now _))
    ·by_cases h3 : q.f0 = 3
     ·by_cases hp : p = N
      ·refine ⟨n1, single (.inr ⟨h3, hp⟩), Ev.succ ?_⟩
       simp only [match_Prog_close.f, rd_nw, rdS hq, Int.toNat_natCast]
       refine Ev.pos (by omega) (Ev.pos (by omega) (Ev.neg hle (Ev.bindc rfl (Ev.pos (by omega) (Ev.neg h1 (Ev.neg h2 (Ev.succ ?_)))))))
       simp only [match_Prog_close.j0]
       exact Ev.neg (by simp) (Ev.pos h3 (Ev.pos (by rw [hla]; simpa using hp) (Ev.bind' v1 (Ev.now _))))
      ·refine ⟨now.set a st, alone h1 (fun h => h2 h.1) (fun h => hp h.2), Ev.succ ?_⟩
       simp only [match_Prog_close.f, rd_nw, rdS hq, Int.toNat_natCast]
       refine Ev.pos (by omega) (Ev.pos (by omega) (Ev.neg hle (Ev.bindc rfl (Ev.pos (by omega) (Ev.neg h1 (Ev.neg h2 (Ev.succ ?_)))))))
       simp only [match_Prog_close.j0]
       exact Ev.neg (by simp) (Ev.pos h3 (Ev.neg (by rw [hla]; simpa using hp) (Ev.now _)))
     ·refine ⟨now.set a st, alone h1 (fun h => h2 h.1) (fun h => h3 h.1), Ev.succ ?_⟩
      simp only [match_Prog_close.f, rd_nw, rdS hq, Int.toNat_natCast]
      refine Ev.pos (by omega) (Ev.pos (by omega) (Ev.neg hle (Ev.bindc rfl (Ev.pos (by omega) (Ev.neg h1 (Ev.neg h2 (Ev.succ ?_)))))))
      simp only [match_Prog_close.j0]
      exact Ev.neg (by simp) (Ev.neg h3 (Ev.now _))
def chB (t : ByteArray) (k : Nat) : Nat := (bt t (k : Int)).toNat
theorem chB_lt (t : ByteArray) (k : Nat) : chB t k < 256 := by unfold chB; have := bt_range t (k : Int); omega
theorem chB_int (t : ByteArray) (k : Nat) : bt t (k : Int) = ((chB t k : Nat) : Int) := by unfold chB; have := bt_range t (k : Int); omega
section
variable {L : List MSt} (ht : Tg L) (hok : ∀ s ∈ L, okS s.f1) (hll : L.length ≤ 1000000) {t : ByteArray} (hts : t.size < 1000000) {x0 from_ : Nat} (h0 : x0 < L.length)
include ht hok hll hts h0
theorem find_l1 {i : Nat} {a b : Int} {now : List Int} (hiN : i < t.size) (hc : Come L (chB t) t.size x0 from_ i (i + 1) a now) (hb : Best L (chB t) t.size x0 from_ (i + 1) a b)
  (hl0 : ∀ next, Come L (chB t) t.size x0 from_ (i + 1) (i + 1) a next → ∃ ra rb ok, FindS L (chB t) t.size x0 (from_ : Int) ra rb ok ∧ Ev (fun k => match_Prog_Find.l0 k t a b next ((i : Int) + 1) L (x0 : Int)) (ra, rb, ok, (x0 : Int))) (d : Nat) :
  ∀ (q : Nat) (next : List Int) (any : Bool), q + d = L.length → Next L (chB t) t.size x0 from_ i a now next any q →
   ∃ ra rb ok, FindS L (chB t) t.size x0 (from_ : Int) ra rb ok ∧ Ev (fun k => match_Prog_Find.l1 k t a b (i : Int) next any now (now.length : Int) (q : Int) L (x0 : Int)) (ra, rb, ok, (x0 : Int)) := by
 have hcl := hc.len
 induction d with
 | zero =>
  intro q next any hq hn
  obtain rfl : q = L.length := by omega
  cases any with
  | true =>
   obtain ⟨ra, rb, ok, hf, hv⟩ := hl0 next (hn.come ht h0 hc (by omega) hts)
   refine ⟨ra, rb, ok, hf, Ev.succ ?_⟩
   simp only [match_Prog_Find.l1]
   refine Ev.neg (by omega) (Ev.pos (by first | rfl | exact True.intro | simp) ?_)
   rw [w64 (n := (i : Int) + 1) (by omega) (by omega)]
   exact hv
  | false =>
   have hne := (hn.any rfl).1
   have hb2 := hn.over ht h0 hc hb (by omega) hts
   refine ⟨a, b, true, hb2.some hne, Ev.succ ?_⟩
   simp only [match_Prog_Find.l1]
   exact Ev.neg (by omega) (Ev.neg (by simp) (Ev.neg hne (Ev.now _)))
 | succ d ih =>
  intro q next any hq hn
  have hql : q < L.length := by omega
  obtain ⟨qs, hqs⟩ : ∃ s, L[q]? = some s := ⟨_, List.getElem?_eq_getElem hql⟩
  have e1 : wrap64 ((q : Int) + 1) = ((q + 1 : Nat) : Int) := by rw [w64 (by omega) (by omega)]; omega
  have skip : ¬ On1 L (chB t) i a now q → ∃ ra rb ok, FindS L (chB t) t.size x0 (from_ : Int) ra rb ok ∧ Ev (fun k => match_Prog_Find.l1 k t a b (i : Int) next any now (now.length : Int) (wrap64 ((q : Int) + 1)) L (x0 : Int)) (ra, rb, ok, (x0 : Int)) := fun hoff => by
   rw [e1]
   exact ih (q + 1) next any (by omega) (hn.skip hoff)
  by_cases g1 : nw now q ≤ a
  ·by_cases g2 : nw now q < NO
   ·by_cases g3 : qs.f0 = 0
    ·have hhas := has_ev qs.f1 (hok qs (List.mem_of_getElem? hqs)) (chB t i) (chB_lt t i)
     cases hbit : bitS qs.f1 (chB t i) with
     | true =>
      rw [hbit] at hhas
      have hon : On1 L (chB t) i a now q := ⟨g1, g2, qs, hqs, g3, hbit⟩
      obtain ⟨r0, r1, _⟩ := ht qs (List.mem_of_getElem? hqs)
      obtain ⟨n1, c1, v1⟩ := close_ev ht (x0 : Int) (i + 1) t.size false (wrap64 ((i : Int) + 1) == (t.size : Int)) (by simp) (by
       rw [w64 (by omega) (by omega)]
       apply Bool.eq_iff_iff.2
       simp
       omega) (nw now q) _ next qs.f2.toNat hn.len (by omega) (Nat.le_refl _)
      rw [show ((qs.f2.toNat : Nat) : Int) = qs.f2 by omega] at v1
      obtain ⟨ra, rb, ok, hf, hv⟩ := ih (q + 1) n1 true (by omega) (hn.step hc hiN hqs hon c1)
      refine ⟨ra, rb, ok, hf, Ev.succ ?_⟩
      simp only [match_Prog_Find.l1, rd_nw, rdS hqs, chB_int]
      refine Ev.pos (by omega) (Ev.pos (by omega) (Ev.pos (by omega) (Ev.pos (by omega) (Ev.pos g1 (Ev.pos g2 (Ev.pos g3 (Ev.pos (by omega) (Ev.pos (by omega) (Ev.bindc hhas (Ev.pos (by first | rfl | exact True.intro | simp) (Ev.bind' v1 ?_)))))))))))
      rw [e1]
      exact hv
     | false =>
      rw [hbit] at hhas
      obtain ⟨ra, rb, ok, hf, hv⟩ := skip (fun ⟨_, _, q', hq', _, hb'⟩ => by rw [hqs] at hq'; obtain rfl := Option.some.inj hq'; rw [hbit] at hb'; cases hb')
      refine ⟨ra, rb, ok, hf, Ev.succ ?_⟩
      simp only [match_Prog_Find.l1, rd_nw, rdS hqs, chB_int]
      exact Ev.pos (by omega) (Ev.pos (by omega) (Ev.pos (by omega) (Ev.pos (by omega) (Ev.pos g1 (Ev.pos g2 (Ev.pos g3 (Ev.pos (by omega) (Ev.pos (by omega) (Ev.bindc hhas (Ev.neg (by simp) hv))))))))))
    ·obtain ⟨ra, rb, ok, hf, hv⟩ := skip (fun ⟨_, _, q', hq', hk, _⟩ => by rw [hqs] at hq'; obtain rfl := Option.some.inj hq'; exact g3 hk)
     refine ⟨ra, rb, ok, hf, Ev.succ ?_⟩
     simp only [match_Prog_Find.l1, rd_nw, rdS hqs, chB_int]
     exact Ev.pos (by omega) (Ev.pos (by omega) (Ev.pos (by omega) (Ev.pos (by omega) (Ev.pos g1 (Ev.pos g2 (Ev.neg g3 hv))))))
   ·obtain ⟨ra, rb, ok, hf, hv⟩ := skip (fun h => g2 h.2.1)
    refine ⟨ra, rb, ok, hf, Ev.succ ?_⟩
    simp only [match_Prog_Find.l1, rd_nw, rdS hqs, chB_int]
    exact Ev.pos (by omega) (Ev.pos (by omega) (Ev.pos (by omega) (Ev.pos (by omega) (Ev.pos g1 (Ev.neg g2 hv)))))
  ·obtain ⟨ra, rb, ok, hf, hv⟩ := skip (fun h => g1 h.1)
   refine ⟨ra, rb, ok, hf, Ev.succ ?_⟩
   simp only [match_Prog_Find.l1, rd_nw, rdS hqs, chB_int]
   exact Ev.pos (by omega) (Ev.pos (by omega) (Ev.pos (by omega) (Ev.pos (by omega) (Ev.neg g1 hv))))
theorem find_l0 (hz : 0 < L.length) (d : Nat) : ∀ (i : Nat) (a b : Int) (now : List Int), i + d = t.size → from_ ≤ i → Come L (chB t) t.size x0 from_ i i a now → Best L (chB t) t.size x0 from_ i a b →
  ∃ ra rb ok, FindS L (chB t) t.size x0 (from_ : Int) ra rb ok ∧ Ev (fun k => match_Prog_Find.l0 k t a b now (i : Int) L (x0 : Int)) (ra, rb, ok, (x0 : Int)) := by
 induction d with
 | zero =>
  intro i a b now hi hf hc hb
  obtain rfl : i = t.size := by omega
  have J3 : ∀ a b now, Best L (chB t) t.size x0 from_ (t.size + 1) a b → ∃ ra rb ok, FindS L (chB t) t.size x0 (from_ : Int) ra rb ok ∧ Ev (fun k => match_Prog_Find.j3 k t a b now (t.size : Int) L (x0 : Int)) (ra, rb, ok, (x0 : Int)) := by
   intro a b now hb
   by_cases ha : a = NO
   ·refine ⟨0, 0, false, hb.none ha hts, Ev.succ ?_⟩
    simp only [match_Prog_Find.j3]
    exact Ev.pos (by trivial) (Ev.pos ha (Ev.now _))
   ·refine ⟨a, b, true, hb.some ha, Ev.succ ?_⟩
    simp only [match_Prog_Find.j3]
    exact Ev.pos (by trivial) (Ev.neg ha (Ev.now _))
  have J2 : ∀ now, Come L (chB t) t.size x0 from_ t.size (t.size + 1) a now → ∃ ra rb ok, FindS L (chB t) t.size x0 (from_ : Int) ra rb ok ∧ Ev (fun k => match_Prog_Find.j2 k t a b now (t.size : Int) L (x0 : Int)) (ra, rb, ok, (x0 : Int)) := by
   intro now hc
   have hl := hc.len
   by_cases hle : nw now 0 ≤ a
   ·obtain ⟨ra, rb, ok, hf, hv⟩ := J3 _ _ now (hb.better h0 hc (Nat.le_refl _) hts hle)
    refine ⟨ra, rb, ok, hf, Ev.succ ?_⟩
    simp only [match_Prog_Find.j2, show rd now 0 = nw now 0 from rd_nw now 0]
    exact Ev.pos (by omega) (Ev.pos hle hv)
   ·obtain ⟨ra, rb, ok, hf, hv⟩ := J3 _ _ now (hb.stays h0 hc (Nat.le_refl _) hts hle).1
    refine ⟨ra, rb, ok, hf, Ev.succ ?_⟩
    simp only [match_Prog_Find.j2, show rd now 0 = nw now 0 from rd_nw now 0]
    exact Ev.pos (by omega) (Ev.neg hle hv)
  by_cases ha : a = NO
  ·obtain ⟨n1, c1, v1⟩ := close_ev ht (x0 : Int) t.size t.size ((t.size : Int) == 0) ((t.size : Int) == (t.size : Int)) (by apply Bool.eq_iff_iff.2; simp) (by simp) ((t.size : Nat) : Int) _ now x0 hc.len h0 (Nat.le_refl _)
   obtain ⟨ra, rb, ok, hf, hv⟩ := J2 n1 (hc.begin ht h0 ha (Nat.le_refl _) hts hf c1)
   refine ⟨ra, rb, ok, hf, Ev.succ ?_⟩
   simp only [match_Prog_Find.l0]
   exact Ev.pos ha (Ev.bind' v1 hv)
  ·obtain ⟨ra, rb, ok, hf, hv⟩ := J2 now (hc.later (by
    rcases hb with ⟨h, _⟩ | ⟨s, t', h, _, _, h1, h2, _⟩
    ·exact absurd h ha
    ·omega))
   refine ⟨ra, rb, ok, hf, Ev.succ ?_⟩
   simp only [match_Prog_Find.l0]
   exact Ev.neg ha hv
 | succ d ih =>
  intro i a b now hi hf hc hb
  have J3 : ∀ a b now, Come L (chB t) t.size x0 from_ i (i + 1) a now → Best L (chB t) t.size x0 from_ (i + 1) a b → ∃ ra rb ok, FindS L (chB t) t.size x0 (from_ : Int) ra rb ok ∧ Ev (fun k => match_Prog_Find.j3 k t a b now (i : Int) L (x0 : Int)) (ra, rb, ok, (x0 : Int)) := by
   intro a b now hc hb
   have hfr := fresh_ev L (x0 : Int) hll
   have hn0 : Next L (chB t) t.size x0 from_ i a now (List.replicate L.length NO) (a == 1099511627776) 0 := Next.start (by simp) (fun y hy => by rw [nw_rep, if_pos hy]) (fun y hy => by rw [nw_rep, if_neg (by omega)]) (by apply Bool.eq_iff_iff.2; simp) ht
   obtain ⟨ra, rb, ok, hfs, hv⟩ := find_l1 ht hok hll hts h0 (by omega) hc hb (fun next hn => ih (i + 1) a b next (by omega) (by omega) hn hb) L.length 0 _ _ (by omega) hn0
   refine ⟨ra, rb, ok, hfs, Ev.succ ?_⟩
   simp only [match_Prog_Find.j3]
   exact Ev.neg (by omega) (Ev.bind' hfr hv)
  have J2 : ∀ now, Come L (chB t) t.size x0 from_ i (i + 1) a now → ∃ ra rb ok, FindS L (chB t) t.size x0 (from_ : Int) ra rb ok ∧ Ev (fun k => match_Prog_Find.j2 k t a b now (i : Int) L (x0 : Int)) (ra, rb, ok, (x0 : Int)) := by
   intro now hc
   have hl := hc.len
   by_cases hle : nw now 0 ≤ a
   ·have hc2 : Come L (chB t) t.size x0 from_ i (i + 1) (nw now 0) now := ⟨hc.len, hc.snd, fun s x h1 h2 h3 h4 => hc.cpl s x h1 h2 (Int.le_trans h3 hle) h4⟩
    obtain ⟨ra, rb, ok, hf, hv⟩ := J3 _ _ now hc2 (hb.better h0 hc (by omega) hts hle)
    refine ⟨ra, rb, ok, hf, Ev.succ ?_⟩
    simp only [match_Prog_Find.j2, show rd now 0 = nw now 0 from rd_nw now 0]
    exact Ev.pos (by omega) (Ev.pos hle hv)
   ·obtain ⟨ra, rb, ok, hf, hv⟩ := J3 _ _ now hc (hb.stays h0 hc (by omega) hts hle).1
    refine ⟨ra, rb, ok, hf, Ev.succ ?_⟩
    simp only [match_Prog_Find.j2, show rd now 0 = nw now 0 from rd_nw now 0]
    exact Ev.pos (by omega) (Ev.neg hle hv)
  by_cases ha : a = NO
  ·obtain ⟨n1, c1, v1⟩ := close_ev ht (x0 : Int) i t.size ((i : Int) == 0) ((i : Int) == (t.size : Int)) (by apply Bool.eq_iff_iff.2; simp) (by apply Bool.eq_iff_iff.2; simp <;> omega) (i : Int) _ now x0 hc.len h0 (Nat.le_refl _)
   obtain ⟨ra, rb, ok, hf, hv⟩ := J2 n1 (hc.begin ht h0 ha (by omega) hts hf c1)
   refine ⟨ra, rb, ok, hf, Ev.succ ?_⟩
   simp only [match_Prog_Find.l0]
   exact Ev.pos ha (Ev.bind' v1 hv)
  ·obtain ⟨ra, rb, ok, hf, hv⟩ := J2 now (hc.later (by
    rcases hb with ⟨h, _⟩ | ⟨s, t', h, _, _, h1, h2, _⟩
    ·exact absurd h ha
    ·omega))
   refine ⟨ra, rb, ok, hf, Ev.succ ?_⟩
   simp only [match_Prog_Find.l0]
   exact Ev.neg ha hv
theorem find_ev (from2 : Int) : ∃ ra rb ok, FindS L (chB t) t.size x0 from2 ra rb ok ∧ Ev (fun k => match_Prog_Find.f k L (x0 : Int) t from2) (ra, rb, ok, (x0 : Int)) := by
 have bad : ∀ x : Bool, x = true → Ev (fun k => match_Prog_Find.j0 k t from2 x L (x0 : Int)) (0, 0, false, (x0 : Int)) := fun x hx => by
  refine Ev.succ ?_
  simp only [match_Prog_Find.j0]
  exact Ev.pos hx (Ev.now _)
 by_cases hneg : from2 < 0
 ·refine ⟨0, 0, false, .inl ⟨rfl, rfl, rfl, fun s e h1 h2 h3 => by omega⟩, ?_⟩
  unfold match_Prog_Find.f
  exact Ev.pos hneg (bad true rfl)
 ·by_cases hgt : from2 > (t.size : Int)
  ·refine ⟨0, 0, false, .inl ⟨rfl, rfl, rfl, fun s e h1 h2 h3 => by omega⟩, ?_⟩
   unfold match_Prog_Find.f
   exact Ev.neg hneg (bad _ (by simpa using hgt))
  ·obtain ⟨f, rfl⟩ := Int.eq_ofNat_of_zero_le (by omega : 0 ≤ from2)
   have hc : Come L (chB t) t.size x0 f f f NO (List.replicate L.length NO) := ⟨by simp, fun x hx => .inl (by rw [nw_rep, if_pos hx]), fun s x h1 h2 => by omega⟩
   have hb : Best L (chB t) t.size x0 f f NO 0 := .inl ⟨rfl, fun s e h1 h2 hr => by have := hr.le; omega⟩
   obtain ⟨ra, rb, ok, hf, hv⟩ := find_l0 ht hok hll hts (from_ := f) h0 (by omega) (t.size - f) f NO 0 _ (by omega) (Nat.le_refl _) hc hb
   refine ⟨ra, rb, ok, hf, ?_⟩
   unfold match_Prog_Find.f
   refine Ev.neg hneg (Ev.succ ?_)
   simp only [match_Prog_Find.j0]
   exact Ev.neg (by simpa using hgt) (Ev.bind' (fresh_ev L (x0 : Int) hll) hv)
end
end Go.Proofs.Ythlffghlkggimaa.Pr
