/- match: what a parsed tree is like: well made, of no more states than the pattern has bytes, and without anchors where the pattern has none. -/
import Derived.Test.YthlffghlkggimaaPuMtS
import Derived.Test.YthlffghlkggimaaPuRxG0
set_option linter.unusedVariables false
namespace Go.Proofs.Ythlffghlkggimaa.Pr
open Go Go.RowKit Go.Proofs.YthlffghlkggimaaW.PrintWords Go.Proofs.YthlffghlkggimaaW.PrintLast Go.Proofs.YthlffghlkggimaaW.PrintMore

theorem wfL_app {a b : List RNode} : WfL (a ++ b) ↔ WfL a ∧ WfL b := by
  induction a with
  | nil => simp [WfL]
  | cons k r ih => simp only [List.cons_append, WfL, ih]; exact and_assoc.symm
def WfCl : Cl → Prop
  | .altL acc => acc ≠ [] ∧ WfL acc
  | .cat acc => WfL acc
  | .signs n => Wf n
  | _ => True
theorem wf_cat (acc : List RNode) (h : WfL acc) : Wf (catN acc) := match acc, h with
  | [], _ => by simp only [catN, zN]; rw [Wf]; exact ⟨by rw [WfL]; trivial, by decide, by decide⟩
  | [n], h => by rw [WfL] at h; exact h.1
  | a :: b :: r, h => by simp only [catN]; rw [Wf]; exact ⟨h, fun e => absurd e (by decide), fun e => absurd e (by decide)⟩
theorem wf_alt (acc : List RNode) (hn : acc ≠ []) (h : WfL acc) : Wf (altN acc) := match acc, hn, h with
  | [], hn, _ => absurd rfl hn
  | [n], _, h => by rw [WfL] at h; exact h.1
  | a :: b :: r, _, h => by simp only [altN]; rw [Wf]; exact ⟨h, fun _ => by simp, fun e => absurd e (by decide)⟩
theorem wf_one (n : RNode) (h : Wf n) : WfL [n] := by rw [WfL, WfL]; exact ⟨h, trivial⟩
theorem wf_R {t : ByteArray} {cl : Cl} {s s' : St} {n : RNode} (h : R t cl s n s') (hc : WfCl cl) : Wf n := by
  induction h with
  | alt _ _ i1 i2 => exact i2 ⟨by simp, wf_one _ (i1 (by show WfL []; rw [WfL]; trivial))⟩
  | altMore _ _ _ _ i1 i2 => exact i2 ⟨by simp, wfL_app.2 ⟨hc.2, wf_one _ (i1 (by show WfL []; rw [WfL]; trivial))⟩⟩
  | altEnd => exact wf_alt _ hc.1 hc.2
  | catEnd => exact wf_cat _ hc
  | catBad => exact wf_cat _ hc
  | catMore _ _ _ _ _ _ _ ia is ic => exact ic (wfL_app.2 ⟨hc, wf_one _ (is (ia trivial))⟩)
  | signsMore _ ho _ is =>
    have := opOf_in ho
    exact is (by show Wf _; rw [Wf]; exact ⟨wf_one _ hc, fun h => by omega, fun _ => by simp⟩)
  | signsEnd => exact hc
  | group _ _ _ ia => exact ia trivial
  | leaf _ _ hl => cases hl <;> (rw [Wf]; exact ⟨by rw [WfL]; trivial, by decide, by decide⟩)
theorem cntC_app (a b : List RNode) : cntC (a ++ b) = cntC a + cntC b := by
  induction a with
  | nil => simp [cntC]
  | cons k r ih => simp only [List.cons_append, cntC, ih]; omega
theorem cntA_snoc (a : List RNode) (n : RNode) : cntA (a ++ [n]) ≤ cntA a + 1 + cnt n := by
  induction a with
  | nil => simp [cntA]
  | cons k r ih =>
    simp only [List.cons_append]
    rw [cntA, cntA]
    rw [if_neg (by simp)]
    by_cases h : r = []
    · subst h; simp [cntA]; omega
    · rw [if_neg h]; omega
def CntCl : Cl → Int → Int → Prop
  | .altL acc, c, d => c ≤ cntA acc + d
  | .cat acc, c, d => c ≤ cntC acc + d
  | .signs m, c, d => c ≤ cnt m + d
  | _, c, d => c ≤ d
theorem cnt_cat (acc : List RNode) : cnt (catN acc) ≤ cntC acc := match acc with
  | [] => by simp only [catN, zN]; rw [cnt_0 _ _ (by decide)]; omega
  | [n] => by simp only [catN, cntC]; omega
  | a :: b :: r => by simp only [catN]; rw [cnt_2]; exact Nat.le_refl _
theorem cnt_alt (acc : List RNode) : cnt (altN acc) ≤ cntA acc := match acc with
  | [] => by simp only [altN]; rw [cnt_3]; exact Nat.le_refl _
  | [n] => by simp only [altN, cntA]; omega
  | a :: b :: r => by simp only [altN]; rw [cnt_3]; exact Nat.le_refl _
theorem cntA_one (n : RNode) : cntA [n] = cnt n := by simp [cntA]
theorem cnt_R {t : ByteArray} (ht : (t.size : Int) ≤ 1000000) {cl : Cl} {s s' : St} {n : RNode} (h : R t cl s n s') (hg : Good t s) (he : s'.e = 0) : CntCl cl (cnt n) (s'.p - s.p) := by
  induction h with
  | @alt s s1 s2 n m h1 h2 i1 i2 =>
    have k1 := R_kp ht h1 hg
    have e1 := (R_kp ht h2 k1.1).2 he
    have a1 := i1 hg e1.1
    have a2 := i2 k1.1 he
    simp only [CntCl] at a1 a2 ⊢
    rw [cntA_one] at a2
    simp only [cntC] at a1
    omega
  | @altMore s s1 s2 acc n m hx hl h1 h2 i1 i2 =>
    have kg := go_kp ht hg hx
    have k1 := R_kp ht h1 kg.1
    have e1 := (R_kp ht h2 k1.1).2 he
    have a1 := i1 kg.1 e1.1
    have a2 := i2 k1.1 he
    have hgp := go_p ht hx
    have := cntA_snoc acc n
    simp only [CntCl] at a1 a2 ⊢
    simp only [cntC] at a1
    omega
  | @altEnd s acc =>
    simp only [CntCl]
    have := cnt_alt acc
    omega
  | @catEnd s acc =>
    simp only [CntCl]
    have := cnt_cat acc
    omega
  | catBad => exact absurd he (fail_ne _ _ _ (by decide))
  | @catMore s s1 s2 s3 acc n m r c hx h1 h2 hl hat hs hc ia is ic =>
    have k1 := R_kp ht hat hg
    have k2 := R_kp ht hs k1.1
    have k3 := R_kp ht hc k2.1
    have e2 := k3.2 he
    have e1 := k2.2 e2.1
    have a1 := ia hg e1.1
    have a2 := is k1.1 e2.1
    have a3 := ic k2.1 he
    simp only [CntCl] at a1 a2 a3 ⊢
    rw [cntC_app] at a3
    simp only [cntC] at a3
    omega
  | @signsMore s s' n m c op hx ho hs is =>
    have kg := go_kp ht hg hx
    have hgp := go_p ht hx
    have a1 := is kg.1 he
    have hop := opOf_in ho
    simp only [CntCl] at a1 ⊢
    rw [cnt_4 _ _ (by omega)] at a1
    simp only [cntH] at a1
    omega
  | signsEnd =>
    simp only [CntCl]
    omega
  | @group s s1 n o hx hal ho ia =>
    have hdk := deeper_kp ht hg hx
    have ka := R_kp ht hal hdk.1
    obtain ⟨ksh, hsh⟩ := shut_kp ht hg hx ka ho
    obtain ⟨rfl, e1, hd20, hsh2⟩ := hsh he
    have ed := ka.2 e1
    have hd := hdk.2 ed.1
    have a1 := ia hdk.1 e1
    have hgp := go_p ht ho
    rw [hsh2]
    simp only [CntCl] at a1 ⊢
    rw [hgp]
    omega
  | @leaf s s' n c hx hc hl =>
    have hk := (leaf_kp ht hg hx hl).2 he
    have hgp := go_p ht hx
    have : cnt n ≤ 1 := by cases hl <;> (rw [cnt_1 _ _ (by omega)]; omega)
    simp only [CntCl]
    omega
/-- a whole pattern's tree has no more states than the pattern has bytes -/
theorem cnt_of {t : ByteArray} (ht : (t.size : Int) ≤ 1000000) {n : RNode} {s : St} (h : R t .alt s0 n s) (he : s.e = 0) : cnt n ≤ t.size := by
  have hg := s0_good t
  have hl := cnt_R ht h hg he
  have hk := R_kp ht h hg
  have hk1 := hk.1 he
  simp only [CntCl] at hl
  have : s0.p = 0 := rfl
  omega
/-- every state's set is four words -/
def OkL (l : List MSt) : Prop := ∀ s ∈ l, okS s.f1
theorem OkL.add {l : List MSt} {s : MSt} (h : OkL l) (hs : okS s.f1) : OkL (l ++ [s]) := by
  intro x hx
  rcases List.mem_append.1 hx with hx | hx
  · exact h x hx
  · rw [List.mem_singleton.1 hx]; exact hs
theorem OkL.set {l : List MSt} {s : MSt} {k : Nat} (h : OkL l) (hs : okS s.f1) : OkL (l.set k s) := by
  intro x hx
  rcases List.mem_or_eq_of_mem_set hx with hx | hx
  · exact h x hx
  · rw [hx]; exact hs
mutual
theorem bld_ok : ∀ (n : RNode) (tz : Nat) (l : List MSt), OkT n → OkL l → OkL (bld n tz l).2
  | ⟨op, w, ks⟩, tz, l, hw, hl => by
    have hw1 : okS w := hw.set
    have hk : ∀ k ∈ ks, OkT k := hw.kids
    rcases op_cases op with rfl | rfl | rfl | rfl | rfl | rfl | rfl | rfl | h
    · rw [bld_1]; exact hl.add hw1
    · rw [bld_7]; exact hl.add okS_zero
    · rw [bld_8]; exact hl.add okS_zero
    · rw [bld_2]; exact bldC_ok ks tz l hk hl
    · rw [bld_3]; exact bldA_ok ks tz l hk hl
    · rw [bld_4]; exact OkL.set (bldH_ok ks _ _ hk (hl.add okS_zero)) okS_zero
    · rw [bld_5]; exact OkL.set (bldH_ok ks _ _ hk (hl.add okS_zero)) okS_zero
    · rw [bld_6]; exact OkL.add (bldH_ok ks tz l hk hl) okS_zero
    · rw [bld_0 _ _ _ _ h]; exact hl
theorem bldC_ok : ∀ (ks : List RNode) (tz : Nat) (l : List MSt), (∀ k ∈ ks, OkT k) → OkL l → OkL (bldC ks tz l).2
  | [], tz, l, _, hl => by unfold bldC; exact hl
  | k :: ks, tz, l, hw, hl => by unfold bldC; exact bld_ok k _ _ (hw k List.mem_cons_self) (bldC_ok ks tz l (fun x hx => hw x (List.mem_cons_of_mem _ hx)) hl)
theorem bldA_ok : ∀ (ks : List RNode) (tz : Nat) (l : List MSt), (∀ k ∈ ks, OkT k) → OkL l → OkL (bldA ks tz l).2
  | [], tz, l, _, hl => by unfold bldA; exact hl
  | k :: ks, tz, l, hw, hl => by
    unfold bldA
    by_cases hks : ks = []
    · simp only [if_pos hks]; exact bld_ok k tz l (hw k List.mem_cons_self) hl
    · simp only [if_neg hks]
      exact OkL.add (bld_ok k tz _ (hw k List.mem_cons_self) (bldA_ok ks tz l (fun x hx => hw x (List.mem_cons_of_mem _ hx)) hl)) okS_zero
theorem bldH_ok : ∀ (ks : List RNode) (tz : Nat) (l : List MSt), (∀ k ∈ ks, OkT k) → OkL l → OkL (bldH ks tz l).2
  | [], tz, l, _, hl => by unfold bldH; exact hl
  | k :: ks, tz, l, hw, hl => by unfold bldH; exact bld_ok k tz l (hw k List.mem_cons_self) hl
end
theorem comp_ok (n : RNode) (h : OkT n) : OkL (comp n).2 := bld_ok n 0 start0 h (fun s hs => by rw [List.mem_singleton.1 hs]; exact okS_zero)
mutual
/-- no anchors in a tree -/
def NoA : RNode → Prop
  | ⟨op, _, ks⟩ => op ≠ 7 ∧ op ≠ 8 ∧ NoAL ks
def NoAL : List RNode → Prop
  | [] => True
  | k :: r => NoA k ∧ NoAL r
end
theorem noAL_app {a b : List RNode} : NoAL (a ++ b) ↔ NoAL a ∧ NoAL b := by
  induction a with
  | nil => simp [NoAL]
  | cons k r ih => simp only [List.cons_append, NoAL, ih]; exact and_assoc.symm
def NoACl : Cl → Prop
  | .altL acc => NoAL acc
  | .cat acc => NoAL acc
  | .signs n => NoA n
  | _ => True
theorem noA_cat (acc : List RNode) (h : NoAL acc) : NoA (catN acc) := match acc, h with
  | [], _ => by simp only [catN, zN]; rw [NoA]; exact ⟨by decide, by decide, by rw [NoAL]; trivial⟩
  | [n], h => by rw [NoAL] at h; exact h.1
  | a :: b :: r, h => by simp only [catN]; rw [NoA]; exact ⟨by decide, by decide, h⟩
theorem noA_alt (acc : List RNode) (h : NoAL acc) : NoA (altN acc) := match acc, h with
  | [], _ => by simp only [altN]; rw [NoA]; exact ⟨by decide, by decide, by rw [NoAL]; trivial⟩
  | [n], h => by rw [NoAL] at h; exact h.1
  | a :: b :: r, h => by simp only [altN]; rw [NoA]; exact ⟨by decide, by decide, h⟩
theorem noA_one (n : RNode) (h : NoA n) : NoAL [n] := by rw [NoAL, NoAL]; exact ⟨h, trivial⟩
theorem noA_R {t : ByteArray} (hb : ∀ p : Int, 0 ≤ p → p < (t.size : Int) → bt t p ≠ 94 ∧ bt t p ≠ 36) {cl : Cl} {s s' : St} {n : RNode} (h : R t cl s n s') (hc : NoACl cl) : NoA n := by
  induction h with
  | alt _ _ i1 i2 => exact i2 (noA_one _ (i1 (by show NoAL []; rw [NoAL]; trivial)))
  | altMore _ _ _ _ i1 i2 => exact i2 (noAL_app.2 ⟨hc, noA_one _ (i1 (by show NoAL []; rw [NoAL]; trivial))⟩)
  | altEnd => exact noA_alt _ hc
  | catEnd => exact noA_cat _ hc
  | catBad => exact noA_cat _ hc
  | catMore _ _ _ _ _ _ _ ia is ic => exact ic (noAL_app.2 ⟨hc, noA_one _ (is (ia trivial))⟩)
  | signsMore _ ho _ is =>
    have := opOf_in ho
    exact is (by show NoA _; rw [NoA]; exact ⟨by omega, by omega, noA_one _ hc⟩)
  | signsEnd => exact hc
  | group _ _ _ ia => exact ia trivial
  | leaf hx _ hl =>
    have hk := hx.ok
    have := hb _ hk.2.1 hk.2.2.1
    cases hl with
    | beg => exact absurd hk.2.2.2 this.1
    | fin => exact absurd hk.2.2.2 this.2
    | _ => rw [NoA]; exact ⟨by decide, by decide, by rw [NoAL]; trivial⟩
section
variable {ch ch' : Nat → Nat} {N M a : Nat}
mutual
theorem mt_le : ∀ (n : RNode) (i j : Nat), Mt ch N n i j → i ≤ j
  | ⟨op, w, ks⟩, i, j, h => by
    have star : ∀ {i j}, Star (MtH ch N ks) i j → i ≤ j := fun h => by
      induction h with
      | nil => exact Nat.le_refl _
      | cons h1 _ ih => exact Nat.le_trans (mtH_le ks _ _ h1) ih
    rcases op_cases op with rfl | rfl | rfl | rfl | rfl | rfl | rfl | rfl | hop
    · rw [Mt_1] at h; omega
    · rw [Mt_7] at h; omega
    · rw [Mt_8] at h; omega
    · rw [Mt_2] at h; exact mtC_le ks i j h
    · rw [Mt_3] at h; exact mtA_le ks i j h
    · rw [Mt_4] at h; exact star h
    · rw [Mt_5] at h; obtain ⟨m, h1, h2⟩ := h; exact Nat.le_trans (mtH_le ks _ _ h1) (star h2)
    · rw [Mt_6] at h; rcases h with h | h
      · exact mtH_le ks _ _ h
      · omega
    · rw [Mt_0 _ _ _ _ hop] at h; omega
theorem mtC_le : ∀ (ks : List RNode) (i j : Nat), MtC ch N ks i j → i ≤ j
  | [], i, j, h => by unfold MtC at h; omega
  | k :: ks, i, j, h => by unfold MtC at h; obtain ⟨m, h1, h2⟩ := h; exact Nat.le_trans (mt_le k _ _ h1) (mtC_le ks _ _ h2)
theorem mtA_le : ∀ (ks : List RNode) (i j : Nat), MtA ch N ks i j → i ≤ j
  | [], i, j, h => by unfold MtA at h; exact h.elim
  | k :: ks, i, j, h => by unfold MtA at h; rcases h with h | h; · exact mt_le k _ _ h
                           · exact mtA_le ks _ _ h
theorem mtH_le : ∀ (ks : List RNode) (i j : Nat), MtH ch N ks i j → i ≤ j
  | [], i, j, h => by unfold MtH at h; omega
  | k :: ks, i, j, h => by unfold MtH at h; exact mt_le k _ _ h
end
theorem star_le {r : Nat → Nat → Prop} (hr : ∀ i j, r i j → i ≤ j) {i j : Nat} (h : Star r i j) : i ≤ j := by
  induction h with
  | nil => exact Nat.le_refl _
  | cons h1 _ ih => exact Nat.le_trans (hr _ _ h1) ih
theorem star_shift {r q : Nat → Nat → Prop} (hr : ∀ i j, r i j → i ≤ j) (h : ∀ i j, j ≤ M → (r (a + i) (a + j) ↔ q i j)) (hq : ∀ i j, q i j → i ≤ j) : ∀ i j, j ≤ M → (Star r (a + i) (a + j) ↔ Star q i j) := by
  intro i j hj
  constructor
  · intro hs
    generalize hx : a + i = x at hs
    generalize hy : a + j = y at hs
    induction hs generalizing i with
    | nil => obtain rfl : i = j := by omega
             exact .nil
    | @cons x m y h1 h2 ih =>
      subst hx
      have l1 := hr _ _ h1
      have l2 : m ≤ y := star_le hr h2
      obtain ⟨m', rfl⟩ : ∃ m', m = a + m' := ⟨m - a, by omega⟩
      exact .cons ((h i m' (by omega)).1 h1) (ih m' rfl hy)
  · intro hs
    induction hs with
    | nil => exact .nil
    | @cons x m y h1 h2 ih =>
      have l2 : m ≤ y := star_le hq h2
      exact .cons ((h x m (by omega)).2 h1) (ih hj)
mutual
/-- without anchors a tree is met in a part of a text as in that part alone -/
theorem mt_shift (hM : a + M ≤ N) (hch : ∀ k, k < M → ch (a + k) = ch' k) : ∀ (n : RNode), NoA n → ∀ i j, j ≤ M → (Mt ch N n (a + i) (a + j) ↔ Mt ch' M n i j)
  | ⟨op, w, ks⟩, hn, i, j, hj => by
    unfold NoA at hn
    obtain ⟨h7, h8, hk⟩ := hn
    have star := star_shift (M := M) (a := a) (r := MtH ch N ks) (q := MtH ch' M ks) (fun i j => mtH_le ks i j) (mtH_shift hM hch ks hk) (fun i j => mtH_le ks i j)
    rcases op_cases op with rfl | rfl | rfl | rfl | rfl | rfl | rfl | rfl | hop
    · rw [Mt_1, Mt_1]
      constructor
      · rintro ⟨h1, h2, h3⟩
        have : i < M := by omega
        exact ⟨this, by rw [← hch i this]; exact h2, by omega⟩
      · rintro ⟨h1, h2, h3⟩
        exact ⟨by omega, by rw [hch i h1]; exact h2, by omega⟩
    · exact absurd rfl h7
    · exact absurd rfl h8
    · rw [Mt_2, Mt_2]; exact mtC_shift hM hch ks hk i j hj
    · rw [Mt_3, Mt_3]; exact mtA_shift hM hch ks hk i j hj
    · rw [Mt_4, Mt_4]; exact star i j hj
    · rw [Mt_5, Mt_5]
      constructor
      · rintro ⟨m, h1, h2⟩
        have l1 := mtH_le ks _ _ h1
        have l2 := star_le (fun i j => mtH_le ks i j) h2
        obtain ⟨m', rfl⟩ : ∃ m', m = a + m' := ⟨m - a, by omega⟩
        exact ⟨m', (mtH_shift hM hch ks hk i m' (by omega)).1 h1, (star m' j hj).1 h2⟩
      · rintro ⟨m, h1, h2⟩
        have l2 := star_le (fun i j => mtH_le ks i j) h2
        exact ⟨a + m, (mtH_shift hM hch ks hk i m (by omega)).2 h1, (star m j hj).2 h2⟩
    · rw [Mt_6, Mt_6]
      have := mtH_shift hM hch ks hk i j hj
      constructor
      · rintro (h | h)
        · exact .inl (this.1 h)
        · exact .inr (by omega)
      · rintro (h | h)
        · exact .inl (this.2 h)
        · exact .inr (by omega)
    · rw [Mt_0 _ _ _ _ hop, Mt_0 _ _ _ _ hop]; omega
theorem mtC_shift (hM : a + M ≤ N) (hch : ∀ k, k < M → ch (a + k) = ch' k) : ∀ (ks : List RNode), NoAL ks → ∀ i j, j ≤ M → (MtC ch N ks (a + i) (a + j) ↔ MtC ch' M ks i j)
  | [], _, i, j, hj => by unfold MtC; omega
  | k :: ks, hn, i, j, hj => by
    unfold NoAL at hn
    unfold MtC
    constructor
    · rintro ⟨m, h1, h2⟩
      have l1 := mt_le k _ _ h1
      have l2 := mtC_le ks _ _ h2
      obtain ⟨m', rfl⟩ : ∃ m', m = a + m' := ⟨m - a, by omega⟩
      exact ⟨m', (mt_shift hM hch k hn.1 i m' (by omega)).1 h1, (mtC_shift hM hch ks hn.2 m' j hj).1 h2⟩
    · rintro ⟨m, h1, h2⟩
      have l2 := mtC_le ks _ _ h2
      exact ⟨a + m, (mt_shift hM hch k hn.1 i m (by omega)).2 h1, (mtC_shift hM hch ks hn.2 m j hj).2 h2⟩
theorem mtA_shift (hM : a + M ≤ N) (hch : ∀ k, k < M → ch (a + k) = ch' k) : ∀ (ks : List RNode), NoAL ks → ∀ i j, j ≤ M → (MtA ch N ks (a + i) (a + j) ↔ MtA ch' M ks i j)
  | [], _, i, j, hj => by unfold MtA; exact Iff.rfl
  | k :: ks, hn, i, j, hj => by
    unfold NoAL at hn
    unfold MtA
    exact or_congr (mt_shift hM hch k hn.1 i j hj) (mtA_shift hM hch ks hn.2 i j hj)
theorem mtH_shift (hM : a + M ≤ N) (hch : ∀ k, k < M → ch (a + k) = ch' k) : ∀ (ks : List RNode), NoAL ks → ∀ i j, j ≤ M → (MtH ch N ks (a + i) (a + j) ↔ MtH ch' M ks i j)
  | [], _, i, j, hj => by unfold MtH; omega
  | k :: ks, hn, i, j, hj => by
    unfold NoAL at hn
    unfold MtH
    exact mt_shift hM hch k hn.1 i j hj
end
end
end Go.Proofs.Ythlffghlkggimaa.Pr
