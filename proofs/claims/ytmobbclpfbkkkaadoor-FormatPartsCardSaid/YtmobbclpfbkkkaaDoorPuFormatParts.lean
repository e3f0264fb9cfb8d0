/- A format of two parts is both: the pure statement. -/
import Derived.Test.YtmobbclpfbkkkaaDoorPuFmtGood
import Derived.Test.YtmobbclpfbkkkaaDoorPuFmtM
import Derived.Test.YtmobbclpfbkkkaaDoorPr15
import Derived.Test.YtmobbclpfbkkkaaDoorPr18
import Derived.Test.YtmobbclpfbkkkaaDoorPr21
namespace Go.Proofs.YtmobbclpfbkkkaaDoor.Pr
open Go Go.RowKit Go.Proofs.YtmobbclpfbkkkaaDoorW.PrintWords Go.Proofs.YtmobbclpfbkkkaaDoorW.PrintLast Go.Proofs.YtmobbclpfbkkkaaDoorW.PrintMore

/-- how many percent signs -/
def cnt (l : List UInt8) : Nat := l.countP (fun c => c.toNat == 37)
theorem count_loop (l : List UInt8) (hl : l.length ≤ 100000) (r : List UInt8) : ∀ (i n : Nat), l.drop i = r → i ≤ l.length → n ≤ i →
    Ev (fun k => scribelaw07_count.l0 k (B l) (n : Int) (i : Int)) ((n + cnt r : Nat) : Int) := by
  induction r with
  | nil =>
    intro i n h hi hn
    have := drop_nil h
    refine Ev.succ ?_
    simp only [scribelaw07_count.l0]
    exact Ev.neg (by rw [B_size]; omega) (Ev.const rfl)
  | cons c r ih =>
    intro i n h hi hn
    obtain ⟨hb, hil, hr'⟩ := bt_drop h
    have hw1 : wrap64 ((i : Int) + 1) = ((i + 1 : Nat) : Int) := by rw [w64 (by omega) (by omega)]; omega
    have hw2 : wrap64 ((n : Int) + 1) = ((n + 1 : Nat) : Int) := by rw [w64 (by omega) (by omega)]; omega
    refine Ev.succ ?_
    simp only [scribelaw07_count.l0, hb, hw1, hw2]
    refine Ev.pos (by rw [B_size]; omega) (Ev.pos (by omega) ?_)
    by_cases hc : c.toNat = 37
    · have e : n + cnt (c :: r) = (n + 1) + cnt r := by
        unfold cnt
        rw [List.countP_cons_of_pos (by simpa using hc)]; omega
      rw [e]
      exact Ev.pos (by omega) (ih (i + 1) (n + 1) hr' (by omega) (by omega))
    · have e : n + cnt (c :: r) = n + cnt r := by
        unfold cnt
        rw [List.countP_cons_of_neg (by simpa using hc)]
      rw [e]
      exact Ev.neg (by omega) (ih (i + 1) n hr' (by omega) (by omega))
theorem count_ev (l : List UInt8) (hl : l.length ≤ 100000) : Ev (fun k => scribelaw07_count.f k (B l)) ((cnt l : Nat) : Int) := by
  have := count_loop l hl l 0 0 rfl (Nat.zero_le _) (Nat.le_refl _)
  rw [Nat.zero_add] at this
  exact this
theorem cnt_one (A : List UInt8) (h : cnt (37 :: A) = 1) : ∀ c ∈ A, c.toNat ≠ 37 := by
  unfold cnt at h
  rw [List.countP_cons_of_pos (by rfl)] at h
  have h0 : A.countP (fun c => c.toNat == 37) = 0 := by omega
  intro c hc e
  have := List.countP_eq_zero.1 h0 c hc
  simp [e] at this
theorem FormatParts_ev (a b : ByteArray) (k1 n1 : Int) (s1 : ByteArray) (k2 n2 : Int) (s2 : ByteArray) (_w0 : a.size ≤ 140737488351232) (_w1 : b.size ≤ 140737488351232)
    (_w2 : (Lit.int .i64 k1).wf = true) (_w3 : (Lit.int .i64 n1).wf = true) (_w4 : s1.size ≤ 140737488351232) (_w5 : (Lit.int .i64 k2).wf = true) (_w6 : (Lit.int .i64 n2).wf = true) (_w7 : s2.size ≤ 140737488351232) :
    Ev (fun k => scribelaw07_FormatParts.f k a b k1 n1 s1 k2 n2 s2) true := by
  unfold scribelaw07_FormatParts.f
  obtain ⟨la, hla, hca⟩ := cut_some a 10 (by omega)
  obtain ⟨lb, hlb, hcb⟩ := cut_some b 10 (by omega)
  have p37 : (⟨#[37]⟩ : ByteArray) = B [37] := rfl
  have p115 : (⟨#[115]⟩ : ByteArray) = B [115] := rfl
  rw [p37, p115]
  refine Ev.bindc hca (Ev.pos (by rw [B_size]; omega) ?_)
  rw [B_append]
  refine Ev.pos (by rw [B_size, List.length_append, List.length_singleton]; omega) (Ev.bindc hcb (Ev.pos (by rw [B_size]; omega) ?_))
  rw [B_append]
  refine Ev.pos (by rw [B_size, List.length_append, List.length_singleton]; omega) ?_
  obtain ⟨r, hr, hrl, hok⟩ := good7_ev [⟨k1, n1, s1⟩, ⟨k2, n2, s2⟩] 2 (by omega)
  refine Ev.bind' hr ?_
  by_cases h2 : (r.length : Int) < 2
  · exact Ev.pos h2 (Ev.bind' (f := fun _ t => some t) awake7_ev (Ev.now _))
  · refine Ev.neg h2 (Ev.pos (by omega) ?_)
    match r, hrl, h2, hok with
    | [], _, h2, _ => simp at h2
    | [x], _, h2, _ => simp at h2
    | x :: y :: z :: r, hrl, _, _ => simp at hrl
    | [x, y], _, _, hok =>
      have hx := hok x (by simp)
      have hy := hok y (by simp)
      rw [B_append, B_append]
      have eA : ([37] ++ la ++ [115] : List UInt8) = 37 :: (la ++ [115]) := by simp
      have eB : ([37] ++ lb ++ [115] : List UInt8) = 37 :: (lb ++ [115]) := by simp
      rw [eA, eB]
      have gA : (la ++ [115]).getLast? = some (115 : UInt8) := last_snoc la
      have gB : (lb ++ [115]).getLast? = some (115 : UInt8) := last_snoc lb
      have nA : (la ++ [115]).length ≤ 11 := by rw [List.length_append, List.length_singleton]; omega
      have nB : (lb ++ [115]).length ≤ 11 := by rw [List.length_append, List.length_singleton]; omega
      generalize la ++ [115] = A at *
      generalize lb ++ [115] = C at *
      have q1 := print_some (37 :: A) [x] (by rw [List.length_cons]; omega) (fun z hz => by rw [List.mem_singleton.1 hz]; exact hx)
      have q2 := print_some (37 :: C) [y] (by rw [List.length_cons]; omega) (fun z hz => by rw [List.mem_singleton.1 hz]; exact hy)
      refine Ev.bindc q1 (Ev.bindc q2 ?_)
      have out : ∀ (s t : ByteArray), Ev (fun k => scribelaw07_FormatParts.j0 k (B (37 :: A)) (B (37 :: C)) [x, y] s t true) true := by
        intro s t
        refine Ev.succ ?_
        simp only [scribelaw07_FormatParts.j0]
        exact Ev.pos (by simp) (Ev.bind' (f := fun _ t => some t) awake7_ev (Ev.now _))
      simp only [List.map_cons, List.map_nil]
      obtain ⟨s, hs⟩ : ∃ s, printS (37 :: A) [cl x] [] = s := ⟨_, rfl⟩
      obtain ⟨t, ht⟩ : ∃ t, printS (37 :: C) [cl y] [] = t := ⟨_, rfl⟩
      rw [hs, ht]
      by_cases e1 : s.2 = 0
      · refine Ev.pos e1 ?_
        by_cases e2 : t.2 = 0
        · refine Ev.pos e2 (Ev.bind' (count_ev (37 :: A) (by rw [List.length_cons]; omega)) ?_)
          by_cases c1 : ((cnt (37 :: A) : Nat) : Int) = 1
          · refine Ev.pos c1 (Ev.bind' (count_ev (37 :: C) (by rw [List.length_cons]; omega)) ?_)
            by_cases c2 : ((cnt (37 :: C) : Nat) : Int) = 1
            · rw [show (((cnt (37 :: C) : Nat) : Int) != 1) = false by simpa using c2]
              have main := parts_law A C (cl x) (cl y) gA gB (cnt_one A (by omega)) (cnt_one C (by omega)) (by omega) (by omega) hx hy s.1 t.1 (by rw [hs, ← e1]) (by rw [ht, ← e2])
              have q3 := print_some ((37 :: A) ++ (37 :: C)) [x, y] (by simp only [List.length_append, List.length_cons]; omega) hok
              rw [List.map_cons, List.map_cons, List.map_nil, main] at q3
              have ls : s.1.length ≤ 4000 := by
                have h := conv_s A gA (cnt_one A (by omega)) [] [cl x] [] hx (by simp)
                rw [List.append_nil, hs] at h
                have := congrArg (fun z => z.1.length) h
                change s.1.length = _ at this
                rw [this]
                split
                · simp
                · rw [printS_nil]
                  split
                  · simp
                  · simp only; omega
              have lt : t.1.length ≤ 4000 := by
                have h := conv_s C gB (cnt_one C (by omega)) [] [cl y] [] hy (by simp)
                rw [List.append_nil, ht] at h
                have := congrArg (fun z => z.1.length) h
                change t.1.length = _ at this
                rw [this]
                split
                · simp
                · rw [printS_nil]
                  split
                  · simp
                  · simp only; omega
              refine Ev.succ ?_
              simp only [scribelaw07_FormatParts.j0]
              refine Ev.neg (by simp) (Ev.pos (by simp only [B_size, List.length_cons]; omega) ?_)
              rw [B_append]
              refine Ev.bindc q3 (Ev.bind' awake7_ev (Ev.pos rfl (Ev.pos rfl (Ev.pos (by simp only [B_size]; omega) (Ev.const ?_)))))
              rw [B_append, B_toList]
              simp
            · rw [show (((cnt (37 :: C) : Nat) : Int) != 1) = true by simpa using c2]
              exact out _ _
          · exact Ev.neg c1 (out _ _)
        · exact Ev.neg e2 (out _ _)
      · exact Ev.neg e1 (out _ _)

end Go.Proofs.YtmobbclpfbkkkaaDoor.Pr
