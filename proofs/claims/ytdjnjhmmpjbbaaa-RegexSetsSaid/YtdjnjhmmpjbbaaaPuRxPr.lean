/- regex.Print, in plain terms: what a tree is printed as, that it can be printed, and how long the text is. -/
import Derived.Test.YtdjnjhmmpjbbaaaPuRxM
import Derived.Test.YtdjnjhmmpjbbaaaPuF
import Derived.Test.YtdjnjhmmpjbbaaaPuRxW
import Derived.Test.YtdjnjhmmpjbbaaaPr25
set_option linter.unusedVariables false
namespace Go.Proofs.Ytdjnjhmmpjbbaaa.Pr
open Go Go.RowKit Go.Proofs.YtdjnjhmmpjbbaaaW.PrintWords Go.Proofs.YtdjnjhmmpjbbaaaW.PrintLast Go.Proofs.YtdjnjhmmpjbbaaaW.PrintMore

def wordsL (w : RSet) : List UInt8 := wordsN w.f0 w.f1 w.f2 w.f3 4
def headB (op : Int) : List UInt8 := [([101, 49, 38, 124, 42, 43, 63, 94, 36] : List UInt8).getD (mn (mx op 0) 8).toNat 0]
mutual
def prL : RNode → List UInt8
  | ⟨op, w, ks⟩ => headB op ++ (if op = 1 then wordsL w else []) ++ prKs ks
def prKs : List RNode → List UInt8
  | [] => []
  | k :: r => 40 :: (prL k ++ 41 :: prKs r)
end
theorem prL_eq (n : RNode) : prL n = headB n.f0 ++ (if n.f0 = 1 then wordsL n.f1 else []) ++ prKs n.f2 := by cases n; rw [prL]
def okS (w : RSet) : Prop := okW w.f0 ∧ okW w.f1 ∧ okW w.f2 ∧ okW w.f3
/-- all words of a tree are of 64 bits -/
inductive OkT : RNode → Prop
  | mk {op : Int} {w : RSet} {ks : List RNode} : okS w → (∀ k ∈ ks, OkT k) → OkT ⟨op, w, ks⟩
theorem OkT.set {n : RNode} (h : OkT n) : okS n.f1 := by cases h with | mk h _ => exact h
theorem OkT.kids {n : RNode} (h : OkT n) : ∀ k ∈ n.f2, OkT k := by cases h with | mk _ h => exact h
theorem words_fwd {w : RSet} (h : okS w) : runtime_plainError_Error.f w.f0 w.f1 w.f2 w.f3 = some (B (wordsL w)) := by
  unfold runtime_plainError_Error.f
  exact if_pos (c := okW w.f0 ∧ okW w.f1 ∧ okW w.f2 ∧ okW w.f3) h
theorem prKs_len (k : RNode) (r : List RNode) : (prKs (k :: r)).length = (prL k).length + 2 + (prKs r).length := by
  rw [prKs]
  simp only [List.length_cons, List.length_append]
  omega
theorem prL_len (n : RNode) : (prKs n.f2).length + 1 ≤ (prL n).length ∧ (prL n).length ≤ 65 + (prKs n.f2).length := by
  rw [prL_eq]
  simp only [List.length_append]
  have h1 : (headB n.f0).length = 1 := rfl
  have h2 : (if n.f0 = 1 then wordsL n.f1 else ([] : List UInt8)).length ≤ 64 := by
    split
    · exact Nat.le_of_eq (wordsN_len _ _ _ _ 4 (by omega))
    · simp
  omega
theorem clamp9 (op : Int) : 0 ≤ mn (mx op 0) 8 ∧ mn (mx op 0) 8 < 9 := by unfold mn mx; constructor <;> (split <;> split <;> omega)
theorem headB_ev (op : Int) : strOfNums [bt (⟨#[101, 49, 38, 124, 42, 43, 63, 94, 36]⟩ : ByteArray) (mn (mx op 0) 8)] = B (headB op) := by
  obtain ⟨h0, h1⟩ := clamp9 op
  obtain ⟨k, hk⟩ := Int.eq_ofNat_of_zero_le h0
  unfold headB
  rw [hk] at h1 ⊢
  have : k < 9 := by omega
  have hb : bt (⟨#[101, 49, 38, 124, 42, 43, 63, 94, 36]⟩ : ByteArray) (k : Int) = ((([101, 49, 38, 124, 42, 43, 63, 94, 36] : List UInt8)[k]'this).toNat : Int) := bt_B [101, 49, 38, 124, 42, 43, 63, 94, 36] k this
  rw [hb, Int.toNat_natCast, List.getD_eq_getElem?_getD, List.getElem?_eq_getElem this, strNums_one]
  rfl
theorem rd_get (l : List RNode) (i : Nat) (h : i < l.length) : rd_T29 l (i : Int) = l[i] := by
  unfold rd_T29
  simp [h]
theorem print_l0 (ks : List RNode) (hb : (prKs ks).length ≤ 1000000000) (ih : ∀ k ∈ ks, Ev (fun q => regex_Print.f q k.f0 k.f1.f0 k.f1.f1 k.f1.f2 k.f1.f3 k.f2) (B (prL k))) (d : Nat) : ∀ (i : Nat) (x : List UInt8), ks.length - i = d → i ≤ ks.length → x.length + (prKs (ks.drop i)).length ≤ 4000000000 →
    Ev (fun q => regex_Print.l0 q (B x) ks (ks.length : Int) (i : Int)) (B (x ++ prKs (ks.drop i))) := by
  have hl : ks.length ≤ 1000000000 := by
    have : ∀ l : List RNode, l.length ≤ (prKs l).length := by
      intro l
      induction l with
      | nil => simp
      | cons k r ih => rw [prKs_len, List.length_cons]; omega
    have := this ks
    omega
  induction d with
  | zero =>
    intro i x hd hi hx
    have : i = ks.length := by omega
    subst this
    refine Ev.succ ?_
    simp only [regex_Print.l0]
    refine Ev.neg (by omega) ?_
    rw [List.drop_length, prKs, List.append_nil]
    exact Ev.now _
  | succ d ihd =>
    intro i x hd hi hx
    have hlt : i < ks.length := by omega
    rw [List.drop_eq_getElem_cons hlt, prKs_len] at hx
    refine Ev.succ ?_
    simp only [regex_Print.l0]
    refine Ev.pos (by omega) (Ev.pos (by omega) (Ev.pos (by omega) ?_))
    rw [rd_get ks i hlt]
    refine Ev.bind' (ih _ (List.getElem_mem hlt)) ?_
    rw [B_lit [40], B_lit [41], B_append, B_append, B_append]
    simp only [B_size, List.length_append, List.length_cons, List.length_nil]
    refine Ev.pos (by omega) (Ev.pos (by omega) (Ev.pos (by omega) ?_))
    rw [w64 (n := (i : Int) + 1) (by omega) (by omega)]
    have hn := ihd (i + 1) (x ++ ([40] ++ prL ks[i] ++ [41])) (by omega) (by omega) (by simp only [List.length_append, List.length_cons, List.length_nil]; omega)
    have e : x ++ ([40] ++ prL ks[i] ++ [41]) ++ prKs (ks.drop (i + 1)) = x ++ prKs (ks.drop i) := by
      rw [List.drop_eq_getElem_cons hlt, prKs]
      simp
    rw [e] at hn
    exact hn
theorem print_ev (c : Nat) : ∀ n : RNode, (prL n).length = c → OkT n → (prL n).length ≤ 1000000000 → Ev (fun q => regex_Print.f q n.f0 n.f1.f0 n.f1.f1 n.f1.f2 n.f1.f3 n.f2) (B (prL n)) := by
  induction c using Nat.strongRecOn with
  | _ c ih =>
    intro n hc hok hb
    obtain ⟨h1, h2⟩ := prL_len n
    have hk : ∀ k ∈ n.f2, Ev (fun q => regex_Print.f q k.f0 k.f1.f0 k.f1.f1 k.f1.f2 k.f1.f3 k.f2) (B (prL k)) := by
      intro k hk
      have hlen : ∀ (l : List RNode), k ∈ l → (prL k).length ≤ (prKs l).length := by
        intro l
        induction l with
        | nil => intro h; cases h
        | cons a r ih =>
          intro h
          rw [prKs_len]
          rcases List.mem_cons.1 h with rfl | h
          · omega
          · have := ih h; omega
      have := hlen _ hk
      exact ih _ (by omega) k rfl (hok.kids k hk) (by omega)
    obtain ⟨g0, g1⟩ := clamp9 n.f0
    refine Ev.succ ?_
    simp only [regex_Print.f]
    refine Ev.pos g0 (Ev.pos g1 (Ev.bindc (a := [bt (⟨#[101, 49, 38, 124, 42, 43, 63, 94, 36]⟩ : ByteArray) (mn (mx n.f0 0) 8)]) rfl ?_))
    rw [headB_ev]
    have hh : (headB n.f0).length = 1 := rfl
    have J : ∀ x : List UInt8, x.length ≤ 100 → Ev (fun q => regex_Print.j0 q (B x) n.f0 n.f1.f0 n.f1.f1 n.f1.f2 n.f1.f3 n.f2) (B (x ++ prKs n.f2)) := by
      intro x hx
      refine Ev.succ ?_
      simp only [regex_Print.j0]
      have := print_l0 n.f2 (by omega) hk _ 0 x rfl (by omega) (by rw [List.drop_zero]; omega)
      rw [List.drop_zero] at this
      exact this
    rw [prL_eq]
    by_cases h : n.f0 = 1
    · rw [if_pos h]
      have hw : (wordsL n.f1).length = 64 := wordsN_len _ _ _ _ 4 (by omega)
      refine Ev.pos h (Ev.bindc (words_fwd hok.set) ?_)
      rw [B_size, B_size, B_append]
      exact Ev.pos (by omega) (J _ (by rw [List.length_append]; omega))
    · rw [if_neg h, List.append_nil]
      exact Ev.neg h (J _ (by omega))

/-! what the parser makes can be printed -/
theorem okW_bits (op : BinOp) (a b : Int) (h : op = .or ∨ op = .xor) : okW (bits op .u64 a b) := by
  rcases h with rfl | rfl <;> (unfold okW bits; simp only [IntKind.wrap_u64]; omega)
theorem okW_zero : okW 0 := ⟨by decide, by decide⟩
theorem okS_zero : okS zW := ⟨okW_zero, okW_zero, okW_zero, okW_zero⟩
theorem okS_not (w : RSet) : okS (notW w) := ⟨okW_bits _ _ _ (.inr rfl), okW_bits _ _ _ (.inr rfl), okW_bits _ _ _ (.inr rfl), okW_bits _ _ _ (.inr rfl)⟩
theorem okS_with {w : RSet} (h : okS w) (c : Int) : okS (withW w c) := by
  obtain ⟨h0, h1, h2, h3⟩ := h
  unfold withW orU
  split
  · exact ⟨okW_bits _ _ _ (.inl rfl), h1, h2, h3⟩
  · split
    · exact ⟨h0, okW_bits _ _ _ (.inl rfl), h2, h3⟩
    · split
      · exact ⟨h0, h1, okW_bits _ _ _ (.inl rfl), h3⟩
      · exact ⟨h0, h1, h2, okW_bits _ _ _ (.inl rfl)⟩
theorem okS_addN (n : Nat) : ∀ {w : RSet} (c : Int), okS w → okS (addN w c n) := by
  induction n with
  | zero => intro w c h; exact h
  | succ n ih => intro w c h; exact ih _ (okS_with h c)
theorem okS_sl {t : ByteArray} {fr : Int} {f : Bool} {w w' : RSet} {s s' : St} (h : SL t fr f w s w' s') (hw : okS w) : okS w' := by
  induction h with
  | bad => exact hw
  | close => exact hw
  | more _ _ _ _ _ ih => exact ih (okS_addN _ _ hw)
theorem okT_leaf {t : ByteArray} {s s' : St} {c : Int} {n : RNode} (h : Leaf t s c n s') : OkT n := by
  have none : ∀ k ∈ ([] : List RNode), OkT k := fun k h => by cases h
  cases h with
  | set h =>
    cases h with
    | neg => exact .mk (okS_not _) none
    | pos _ _ h => exact .mk (okS_sl h okS_zero) none
  | dot => exact .mk (okS_not _) none
  | beg => exact .mk okS_zero none
  | fin => exact .mk okS_zero none
  | sign => exact .mk (okS_with okS_zero _) none
  | esc => exact .mk (okS_with okS_zero _) none
  | lit => exact .mk (okS_with okS_zero _) none
def OkCl : Cl → Prop
  | .altL acc => ∀ k ∈ acc, OkT k
  | .cat acc => ∀ k ∈ acc, OkT k
  | .signs n => OkT n
  | _ => True
theorem okT_many {op : Int} {acc : List RNode} (h : ∀ k ∈ acc, OkT k) : OkT ⟨op, zW, acc⟩ := .mk okS_zero h
theorem okT_R {t : ByteArray} {cl : Cl} {s s' : St} {n : RNode} (h : R t cl s n s') (hc : OkCl cl) : OkT n := by
  have catn : ∀ acc : List RNode, (∀ k ∈ acc, OkT k) → OkT (catN acc) := fun acc h => match acc, h with
    | [], _ => okT_many (fun k h => by cases h)
    | [n], h => h n (by simp)
    | a :: b :: r, h => okT_many h
  have altn : ∀ acc : List RNode, (∀ k ∈ acc, OkT k) → OkT (altN acc) := fun acc h => match acc, h with
    | [], _ => okT_many (fun k h => by cases h)
    | [n], h => h n (by simp)
    | a :: b :: r, h => okT_many h
  have snoc : ∀ {acc : List RNode} {m : RNode}, (∀ k ∈ acc, OkT k) → OkT m → ∀ k ∈ acc ++ [m], OkT k := by
    intro acc m h hm k hk
    rcases List.mem_append.1 hk with hk | hk
    · exact h k hk
    · rw [List.mem_singleton.1 hk]; exact hm
  induction h with
  | alt _ _ i1 i2 => exact i2 (fun k hk => by rw [List.mem_singleton.1 hk]; exact i1 (fun k h => by cases h))
  | altMore _ _ _ _ i1 i2 => exact i2 (snoc hc (i1 (fun k h => by cases h)))
  | altEnd => exact altn _ hc
  | catEnd => exact catn _ hc
  | catBad => exact catn _ hc
  | catMore _ _ _ _ _ _ _ ia is ic => exact ic (snoc hc (is (ia trivial)))
  | signsMore _ _ _ is => exact is (okT_many (fun k hk => by rw [List.mem_singleton.1 hk]; exact hc))
  | signsEnd => exact hc
  | group _ _ _ ia => exact ia trivial
  | leaf _ _ hl => exact okT_leaf hl
/-- how long a tree's text is -/
def LenCl : Cl → Int → Prop
  | .alt, x => x ≤ 4
  | .altL acc, x => x ≤ 1 + (prKs acc).length
  | .cat acc, x => x ≤ 1 + (prKs acc).length
  | .atom, x => x ≤ -2
  | .signs n, x => x ≤ (prL n).length
theorem prKs_app (l m : List RNode) : (prKs (l ++ m)).length = (prKs l).length + (prKs m).length := by
  induction l with
  | nil => simp [prKs]
  | cons k r ih => rw [List.cons_append, prKs_len, prKs_len, ih]; omega
theorem prKs_one (n : RNode) : (prKs [n]).length = (prL n).length + 2 := by rw [prKs_len]; simp [prKs]
theorem len_op {op : Int} {acc : List RNode} (h : op ≠ 1) : (prL ⟨op, zW, acc⟩).length = 1 + (prKs acc).length := by
  rw [prL_eq, if_neg h]
  simp only [List.length_append, List.length_nil]
  rfl
theorem len_R {t : ByteArray} (ht : (t.size : Int) ≤ 1000000) {cl : Cl} {s s' : St} {n : RNode} (h : R t cl s n s') (hg : Good t s) (he : s'.e = 0) : LenCl cl ((prL n).length - 67 * (s'.p - s.p)) := by
  have catn : ∀ acc : List RNode, (prL (catN acc)).length ≤ 1 + (prKs acc).length := fun acc => match acc with
    | [] => by simp only [catN, zN]; rw [len_op (by decide)]; omega
    | [n] => by simp only [catN]; rw [prKs_one]; omega
    | a :: b :: r => by simp only [catN]; rw [len_op (by decide)]; omega
  have altn : ∀ acc : List RNode, (prL (altN acc)).length ≤ 1 + (prKs acc).length := fun acc => match acc with
    | [] => by simp only [altN]; rw [len_op (by decide)]; omega
    | [n] => by simp only [altN]; rw [prKs_one]; omega
    | a :: b :: r => by simp only [altN]; rw [len_op (by decide)]; omega
  induction h with
  | @alt s s1 s2 n m h1 h2 i1 i2 =>
    have k1 := R_kp ht h1 hg
    have e1 := (R_kp ht h2 k1.1).2 he
    have a1 := i1 hg e1.1
    have a2 := i2 k1.1 he
    simp only [LenCl] at a1 a2 ⊢
    rw [prKs_one] at a2
    simp only [prKs, List.length_nil] at a1
    omega
  | @altMore s s1 s2 acc n m hx hl h1 h2 i1 i2 =>
    have kg := go_kp ht hg hx
    have k1 := R_kp ht h1 kg.1
    have e1 := (R_kp ht h2 k1.1).2 he
    have a1 := i1 kg.1 e1.1
    have a2 := i2 k1.1 he
    have hgp := go_p ht hx
    simp only [LenCl] at a1 a2 ⊢
    rw [prKs_app, prKs_one] at a2
    simp only [prKs, List.length_nil] at a1
    omega
  | @altEnd s acc =>
    simp only [LenCl]
    have := altn acc
    omega
  | @catEnd s acc =>
    simp only [LenCl]
    have := catn acc
    omega
  | catBad => exact absurd he (fail_ne _ _ _ (by decide))
  | @catMore s s1 s2 s3 acc n m r c hx h1 h2 hl hat hs hc ia is ic =>
    have k1 := R_kp ht hat hg
    have k2 := R_kp ht hs k1.1
    have k3 := R_kp ht hc k2.1
    have e2 := k3.2 he
    have e1 := k2.2 e2.1
    have a1 := ia hg e1.1
    have a2 := is k1.1 e2.1
    have a3 := ic k2.1 he
    simp only [LenCl] at a1 a2 a3 ⊢
    rw [prKs_app, prKs_one] at a3
    omega
  | @signsMore s s' n m c op hx ho hs is =>
    have kg := go_kp ht hg hx
    have hgp := go_p ht hx
    have a1 := is kg.1 he
    have hop := opOf_in ho
    simp only [LenCl] at a1 ⊢
    rw [len_op (by omega), prKs_one] at a1
    omega
  | signsEnd =>
    simp only [LenCl]
    omega
  | @group s s1 n o hx hal ho ia =>
    have hdk := deeper_kp ht hg hx
    have ka := R_kp ht hal hdk.1
    obtain ⟨ksh, hsh⟩ := shut_kp ht hg hx ka ho
    obtain ⟨rfl, e1, hd20, hsh2⟩ := hsh he
    have ed := ka.2 e1
    have hd := hdk.2 ed.1
    have a1 := ia hdk.1 e1
    have hgp := go_p ht ho
    rw [hsh2]
    simp only [LenCl] at a1 ⊢
    rw [hgp]
    omega
  | @leaf s s' n c hx hc hl =>
    have hk := (leaf_kp ht hg hx hl).2 he
    have hgp := go_p ht hx
    have : (prL n).length ≤ 65 := by
      have := prL_len n
      have e : n.f2 = [] := by cases hl <;> rfl
      rw [e] at this
      simp only [prKs, List.length_nil] at this
      omega
    simp only [LenCl]
    omega
/-- a whole pattern's tree is printed -/
theorem print_of {t : ByteArray} (ht : (t.size : Int) ≤ 300) {n : RNode} {s : St} (h : R t .alt s0 n s) (he : s.e = 0) : Ev (fun q => regex_Print.f q n.f0 n.f1.f0 n.f1.f1 n.f1.f2 n.f1.f3 n.f2) (B (prL n)) := by
  have hg := s0_good t
  have hl := len_R (by omega) h hg he
  have hk := (R_kp (by omega) h hg).1 he
  simp only [LenCl] at hl
  have hp : s0.p = 0 := rfl
  exact print_ev _ n rfl (okT_R h trivial) (by omega)
end Go.Proofs.Ytdjnjhmmpjbbaaa.Pr
