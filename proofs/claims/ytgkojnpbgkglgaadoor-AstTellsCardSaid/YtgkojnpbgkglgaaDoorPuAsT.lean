/- Trees, in plain Lean: of small letters, they print the same just if they are the same; how long a grown tree's print is. -/
import Derived.Test.YtgkojnpbgkglgaaDoorPuAsG
import Derived.Test.YtgkojnpbgkglgaaDoorPuAsL
import Derived.Test.YtgkojnpbgkglgaaDoorPuAsE
import Derived.Test.YtgkojnpbgkglgaaDoorPuDg
set_option linter.unusedVariables false
namespace Go.Proofs.YtgkojnpbgkglgaaDoor.Pr
open Go Go.RowKit Go.Proofs.YtgkojnpbgkglgaaDoorW.PrintWords Go.Proofs.YtgkojnpbgkglgaaDoorW.PrintLast Go.Proofs.YtgkojnpbgkglgaaDoorW.PrintMore

/-- a run of bytes of a kind, and one behind it that isn't of it -/
theorem split_run {P : UInt8 → Prop} : ∀ {a b : List UInt8} {x y : UInt8} {r s : List UInt8}, (∀ c ∈ a, P c) → (∀ c ∈ b, P c) → ¬ P x → ¬ P y → a ++ x :: r = b ++ y :: s → a = b ∧ x = y ∧ r = s
  | [], [], x, y, r, s, _, _, _, _, h => by simp at h; exact ⟨rfl, h.1, h.2⟩
  | [], d :: b, x, y, r, s, _, hb, hx, _, h => by
    simp only [List.nil_append, List.cons_append, List.cons.injEq] at h
    exact absurd (h.1 ▸ hb d List.mem_cons_self) hx
  | c :: a, [], x, y, r, s, ha, _, _, hy, h => by
    simp only [List.nil_append, List.cons_append, List.cons.injEq] at h
    exact absurd (h.1 ▸ ha c List.mem_cons_self) hy
  | c :: a, d :: b, x, y, r, s, ha, hb, hx, hy, h => by
    simp only [List.cons_append, List.cons.injEq] at h
    obtain ⟨h1, h2, h3⟩ := split_run (fun c hc => ha c (List.mem_cons_of_mem _ hc)) (fun c hc => hb c (List.mem_cons_of_mem _ hc)) hx hy h.2
    exact ⟨by rw [h.1, h1], h2, h3⟩
theorem dig_range {u : Nat} {c : UInt8} (h : c ∈ Lib.decDigits u) : 48 ≤ c.toNat ∧ c.toNat ≤ 57 := by
  have := dec_dig u c h
  unfold isDig at this
  simpa using this
theorem dec_inj (a : Nat) : ∀ b, Lib.decDigits a = Lib.decDigits b → a = b := by
  induction a using Nat.strongRecOn with
  | _ a ih =>
    intro b h
    by_cases ha : a < 10
    · by_cases hb : b < 10
      · rw [dec_one a ha, dec_one b hb] at h
        have h1 : UInt8.ofNat (48 + a) = UInt8.ofNat (48 + b) := by simpa using h
        have h2 := congrArg UInt8.toNat h1
        rw [ofNat_dig a ha, ofNat_dig b hb] at h2
        omega
      · have := congrArg List.length h
        rw [dec_one a ha, dec_snoc b hb, List.length_append, Lib.decDigits_length] at this
        have h1 := Lib.nDigits_pos (b / 10)
        simp at this
        omega
    · by_cases hb : b < 10
      · have := congrArg List.length h
        rw [dec_one b hb, dec_snoc a ha, List.length_append, Lib.decDigits_length] at this
        have h1 := Lib.nDigits_pos (a / 10)
        simp at this
        omega
      · rw [dec_snoc a ha, dec_snoc b hb] at h
        have h1 := List.append_inj' h rfl
        have h2 := ih (a / 10) (by omega) (b / 10) h1.1
        have h3 : UInt8.ofNat (48 + a % 10) = UInt8.ofNat (48 + b % 10) := by simpa using h1.2
        have h4 := congrArg UInt8.toNat h3
        rw [ofNat_dig _ (by omega), ofNat_dig _ (by omega)] at h4
        omega
theorem bL_toList (s : ByteArray) : s.toList = bL s := by rw [ByteArray.toList_eq]; rfl
theorem bL_len (s : ByteArray) : (bL s).length = s.size := by rw [bL, Array.length_toList]; rfl
theorem bL_low {s : ByteArray} (h : lowB s) : ∀ c ∈ bL s, 97 ≤ c.toNat ∧ c.toNat ≤ 122 := by
  intro c hc
  obtain ⟨q, hq, rfl⟩ := List.mem_iff_getElem.1 hc
  have hq' : q < s.size := by rw [← bL_len]; exact hq
  have := h q hq'
  have e : bt s (q : Int) = ((bL s)[q].toNat : Int) := by
    have := bt_B (bL s) q hq
    rw [show B (bL s) = s from B_eta s] at this
    exact this
  rw [e] at this
  omega
/-- what a node's own text begins with, and what stands behind its Op -/
theorem behind_op (t : ByteArray) (ks : List ANode) (r : List UInt8) : ∃ x s, txA t ++ (prAs ks ++ 41 :: r) = x :: s ∧ ¬ (97 ≤ x.toNat ∧ x.toNat ≤ 122) := by
  unfold txA
  split
  · cases ks with
    | nil => exact ⟨41, r, by simp [prAs], by decide⟩
    | cons k l => exact ⟨32, _, by rw [prAs]; rfl, by decide⟩
  · exact ⟨32, _, rfl, by decide⟩
theorem lowT_op {n : ANode} (h : lowT n) : lowB n.f0 := h (0, n) (by rw [allT_eq]; exact List.mem_cons_self)
theorem lowT_kids {n : ANode} (h : lowT n) : ∀ k ∈ n.f3, lowT k := allT_kids (P := fun n => lowB n.f0) h
theorem dec_ne (u : Nat) : ∃ c l, Lib.decDigits u = c :: l ∧ 48 ≤ c.toNat ∧ c.toNat ≤ 57 := by
  cases h : Lib.decDigits u with
  | nil => have := congrArg List.length h; rw [Lib.decDigits_length] at this; have := Lib.nDigits_pos u; simp at *; omega
  | cons c l => exact ⟨c, l, rfl, dig_range (u := u) (by rw [h]; exact List.mem_cons_self)⟩
theorem tx_inj (t t' : ByteArray) (ks ks' : List ANode) (r r' : List UInt8) (h : txA t ++ (prAs ks ++ 41 :: r) = txA t' ++ (prAs ks' ++ 41 :: r')) : bL t = bL t' ∧ prAs ks ++ 41 :: r = prAs ks' ++ 41 :: r' := by
  have no : ∀ (u : Nat) (Z : List UInt8) (ks : List ANode) (r : List UInt8), 32 :: (Lib.decDigits u ++ Z) ≠ prAs ks ++ 41 :: r := by
    intro u Z ks r h
    obtain ⟨c, l, hc, h1, h2⟩ := dec_ne u
    cases ks with
    | nil => simp [prAs] at h
    | cons k q =>
      rw [prAs, prA_eq, hc] at h
      simp only [List.cons_append, List.cons.injEq, true_and] at h
      have := congrArg UInt8.toNat h.1
      rw [show (40 : UInt8).toNat = 40 from rfl] at this
      omega
  have hz : ∀ t : ByteArray, t.size = 0 → bL t = [] := fun t h => List.eq_nil_of_length_eq_zero (by rw [bL_len]; exact h)
  unfold txA at h
  by_cases h0 : t.size = 0
  · rw [if_pos h0] at h
    by_cases h1 : t'.size = 0
    · rw [if_pos h1] at h
      exact ⟨by rw [hz t h0, hz t' h1], h⟩
    · rw [if_neg h1, List.nil_append] at h
      exact absurd (by rw [h]; simp) (no t'.size (58 :: bL t' ++ (prAs ks' ++ 41 :: r')) ks r)
  · rw [if_neg h0] at h
    by_cases h1 : t'.size = 0
    · rw [if_pos h1, List.nil_append] at h
      exact absurd (by rw [← h]; simp) (no t.size (58 :: bL t ++ (prAs ks ++ 41 :: r)) ks' r')
    · rw [if_neg h1] at h
      simp only [List.cons_append, List.append_assoc, List.cons.injEq, true_and] at h
      obtain ⟨e1, _, e2⟩ := split_run (P := fun c => 48 ≤ c.toNat ∧ c.toNat ≤ 57) (fun c hc => dig_range hc) (fun c hc => dig_range hc) (by decide) (by decide) h
      have e3 := dec_inj _ _ e1
      have e4 := List.append_inj e2 (by rw [bL_len, bL_len, e3])
      exact e4
theorem pr_inj (sz : Nat) : ∀ (m n : ANode) (r r' : List UInt8), sizeT m ≤ sz → lowT m → lowT n → prA m ++ r = prA n ++ r' → sameT m n = true ∧ r = r' := by
  induction sz with
  | zero => intro m n r r' h; have := allT_pos 0 m; unfold sizeT at h; omega
  | succ sz ih =>
    rintro ⟨o, t, a, ks⟩ ⟨o', t', a', ks'⟩ r r' hsz hm hn h
    have kids : ∀ (ks ks' : List ANode), (allKs 0 ks).length ≤ sz → (∀ k ∈ ks, lowT k) → (∀ k ∈ ks', lowT k) → prAs ks ++ 41 :: r = prAs ks' ++ 41 :: r' → sameL ks ks' = true ∧ r = r' := by
      intro ks
      induction ks with
      | nil =>
        intro ks' _ _ _ h
        cases ks' with
        | nil => simp [prAs] at h; exact ⟨by rw [sameL], h⟩
        | cons k' q' => simp [prAs] at h
      | cons k q ihk =>
        intro ks' hs h1 h2 h
        rw [allKs, List.length_append] at hs
        cases ks' with
        | nil => simp [prAs] at h
        | cons k' q' =>
          rw [prAs, prAs] at h
          simp only [List.cons_append, List.append_assoc, List.cons.injEq, true_and] at h
          obtain ⟨e1, e2⟩ := ih k k' _ _ (by unfold sizeT; omega) (h1 k List.mem_cons_self) (h2 k' List.mem_cons_self) h
          obtain ⟨e3, e4⟩ := ihk q' (by omega) (fun k hk => h1 k (List.mem_cons_of_mem _ hk)) (fun k hk => h2 k (List.mem_cons_of_mem _ hk)) e2
          exact ⟨by rw [sameL, e1, e3]; rfl, e4⟩
    have hlen : sizeT ⟨o, t, a, ks⟩ = (allKs 0 ks).length + 1 := by unfold sizeT; rw [allT_eq, List.length_cons]; simp only; rw [allKs_lend (0 + 1) 0]
    rw [prA_eq, prA_eq] at h
    simp only [List.cons_append, List.append_assoc, List.cons.injEq, true_and, List.nil_append] at h
    obtain ⟨x, s, hx, hx2⟩ := behind_op t ks r
    obtain ⟨y, s', hy, hy2⟩ := behind_op t' ks' r'
    rw [hx, hy] at h
    obtain ⟨e1, e2, e3⟩ := split_run (P := fun c => 97 ≤ c.toNat ∧ c.toNat ≤ 122) (bL_low (lowT_op hm)) (bL_low (lowT_op hn)) hx2 hy2 h
    have h2 : txA t ++ (prAs ks ++ 41 :: r) = txA t' ++ (prAs ks' ++ 41 :: r') := by rw [hx, hy, e2, e3]
    obtain ⟨e4, e5⟩ := tx_inj t t' ks ks' r r' h2
    obtain ⟨e6, e7⟩ := kids ks ks' (by omega) (lowT_kids hm) (lowT_kids hn) e5
    refine ⟨?_, e7⟩
    rw [sameT, bL_toList, bL_toList, bL_toList, bL_toList, e1, e4, e6]
    simp
mutual
theorem same_pr : ∀ m n : ANode, sameT m n = true → prA m = prA n
  | ⟨o, t, a, ks⟩, ⟨o', t', a', ks'⟩, h => by
    rw [sameT, bL_toList, bL_toList, bL_toList, bL_toList] at h
    simp only [Bool.and_eq_true, beq_iff_eq] at h
    obtain ⟨⟨h1, h2⟩, h3⟩ := h
    have hs : t.size = t'.size := by rw [← bL_len, ← bL_len, h2]
    rw [prA_eq, prA_eq]
    simp only
    rw [h1, same_prs ks ks' h3]
    unfold txA
    rw [hs, h2]
theorem same_prs : ∀ a b : List ANode, sameL a b = true → prAs a = prAs b
  | [], [], _ => rfl
  | [], _ :: _, h => by rw [sameL] at h; cases h
  | _ :: _, [], h => by rw [sameL] at h; cases h
  | k :: r, k' :: r', h => by
    rw [sameL] at h
    simp only [Bool.and_eq_true] at h
    rw [prAs, prAs, same_pr k k' h.1, same_prs r r' h.2]
end
/-- **of small letters: trees that print the same are the same, and the other way about.** -/
theorem print_same (m n : ANode) (hm : lowT m) (hn : lowT n) : ((prA m == prA n) == sameT m n) = true := by
  cases h : sameT m n with
  | true => rw [same_pr m n h]; simp
  | false =>
    have : prA m ≠ prA n := fun e => by
      have := (pr_inj (sizeT m) m n [] [] (Nat.le_refl _) hm hn (by rw [e])).1
      rw [h] at this
      cases this
    simp [this]
/-! how long -/
def okN (n : ANode) : Prop := n.f0.size ≤ 10 ∧ n.f1.size ≤ 20
def okTr (n : ANode) : Prop := ∀ x ∈ allT 0 n, okN x.2
theorem okTr_kids : ∀ n, okTr n → ∀ k ∈ n.f3, okTr k := fun n h => allT_kids (P := okN) h
theorem okTr_self {n : ANode} (h : okTr n) : okN n := h (0, n) (by rw [allT_eq]; exact List.mem_cons_self)
theorem okTr_mk {n : ANode} (h : okN n) (hk : ∀ k ∈ n.f3, okTr k) : okTr n := by
  intro x hx
  rw [allT_eq] at hx
  rcases List.mem_cons.1 hx with rfl | hx
  · exact h
  · have key : ∀ (l : List ANode) (d : Int), (∀ k ∈ l, okTr k) → ∀ x ∈ allKs d l, okN x.2 := by
      intro l d
      induction l with
      | nil => intro _ x hx; simp [allKs] at hx
      | cons k r ih =>
        intro h x hx
        rw [allKs, List.mem_append] at hx
        rcases hx with hx | hx
        · have h1 : x.2 ∈ (allT 0 k).map (·.2) := by rw [allT_shift 0 d]; exact List.mem_map_of_mem hx
          obtain ⟨y, hy, he⟩ := List.mem_map.1 h1
          rw [← he]
          exact h k List.mem_cons_self y hy
        · exact ih (fun k hk => h k (List.mem_cons_of_mem _ hk)) x hx
    exact key n.f3 _ hk x hx
theorem okTr_zero : okTr z26 := okTr_mk ⟨by decide, by decide⟩ (fun k hk => by cases hk)
theorem grow_ok (l : List APart) (d : Nat) : ∀ i, okTr (growF l d i) := by
  induction d with
  | zero => intro i; exact okTr_zero
  | succ d ih =>
    intro i
    rw [growF]
    refine okTr_mk ⟨cutB_size _ 10, cutB_size _ 20⟩ (fun k hk => ?_)
    obtain ⟨j, _, rfl⟩ := List.mem_map.1 hk
    exact ih j
theorem treeP_ok (l : List APart) : okTr (treeP l) := by
  unfold treeP
  split
  · exact okTr_zero
  · exact grow_ok _ _ _
theorem okOp_of {n : ANode} (h : okTr n) : okOp n := fun x hx => by have := (h x hx).1; omega
theorem dec_len20 (u : Nat) (h : u ≤ 20) : (Lib.decDigits u).length ≤ 2 := by
  by_cases h1 : u < 10
  · rw [dec_one u h1]; simp
  · rw [Lib.decDigits_two h1 (by omega)]; simp
theorem txA_len {t : ByteArray} (h : t.size ≤ 20) : (txA t).length ≤ 24 := by
  unfold txA
  split
  · simp
  · have := dec_len20 t.size h
    simp only [List.length_cons, List.length_append, bL_len]
    omega
theorem prA_len (sz : Nat) : ∀ n : ANode, sizeT n ≤ sz → okTr n → (prA n).length + 1 ≤ 40 * sizeT n := by
  induction sz with
  | zero => intro n h; have := allT_pos 0 n; unfold sizeT at h; omega
  | succ sz ih =>
    intro n hsz hok
    have h1 := okTr_self hok
    have hk := okTr_kids n hok
    have hlen : sizeT n = (allKs 0 n.f3).length + 1 := by unfold sizeT; rw [allT_eq, List.length_cons, allKs_lend (0 + 1) 0]
    have key : ∀ l : List ANode, (allKs 0 l).length ≤ sz → (∀ k ∈ l, okTr k) → (prAs l).length ≤ 40 * (allKs 0 l).length := by
      intro l
      induction l with
      | nil => intro _ _; simp [prAs]
      | cons k r ihr =>
        intro hs h
        rw [allKs, List.length_append] at hs ⊢
        have e1 := ih k (by unfold sizeT; omega) (h k List.mem_cons_self)
        have e2 := ihr (by omega) (fun k hk => h k (List.mem_cons_of_mem _ hk))
        unfold sizeT at e1
        rw [prAs]
        simp only [List.length_cons, List.length_append]
        omega
    have h2 := key n.f3 (by omega) hk
    have h3 := txA_len h1.2
    have h4 := h1.1
    rw [prA_eq]
    simp only [List.length_cons, List.length_append, bL_len, List.length_nil]
    omega
theorem print_ev (n : ANode) (h : (prA n).length ≤ 1000000000000) : ast_Print.f n.f0 n.f1 n.f2 n.f3 = some (B (prA n)) := by
  unfold ast_Print.f
  rw [node_eta]
  exact if_pos h
theorem treeP_print (l : List APart) : (prA (treeP l)).length ≤ 1000000000000 := by
  have h1 := treeP_size l
  have h2 := prA_len _ (treeP l) (Nat.le_refl _) (treeP_ok l)
  omega
theorem same_ev (m n : ANode) : ast_Same.f m.f0 m.f1 m.f2 m.f3 n.f0 n.f1 n.f2 n.f3 = some (sameT m n) := by
  unfold ast_Same.f
  rw [node_eta, node_eta]
theorem letters_ev (n : ANode) (hs : sizeT n ≤ 1000000000000) (ho : okOp n) : scribelaw12_letters.f n.f0 n.f1 n.f2 n.f3 = some (if lowT n then 0 else -1) := by
  unfold scribelaw12_letters.f
  rw [node_eta]
  exact if_pos ⟨hs, ho⟩
end Go.Proofs.YtgkojnpbgkglgaaDoor.Pr
