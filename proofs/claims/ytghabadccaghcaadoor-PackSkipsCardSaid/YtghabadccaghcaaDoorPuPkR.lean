/- A reader's Int, Text, Open, Close, More, Done: what they take. -/
import Derived.Test.YtghabadccaghcaaDoorPuPkI
import Derived.Test.YtghabadccaghcaaDoorPr1
import Derived.Test.YtghabadccaghcaaDoorPr2
import Derived.Test.YtghabadccaghcaaDoorPr3
import Derived.Test.YtghabadccaghcaaDoorPr4
import Derived.Test.YtghabadccaghcaaDoorPr5
import Derived.Test.YtghabadccaghcaaDoorPr6
import Derived.Test.YtghabadccaghcaaDoorPr7
import Derived.Test.YtghabadccaghcaaDoorPr8
import Derived.Test.YtghabadccaghcaaDoorPr10
namespace Go.Proofs.YtghabadccaghcaaDoor.Pr
open Go Go.RowKit Go.Proofs.YtghabadccaghcaaDoorW.PrintWords Go.Proofs.YtghabadccaghcaaDoorW.PrintLast Go.Proofs.YtghabadccaghcaaDoorW.PrintMore

theorem int_j0_e (b : Bool) (s : ByteArray) (a d e : Int) (h : e ≠ 0) (hb : b = false) : Ev (fun k => pack_Reader_Int.j0 k b s a d e) (0, s, a, d, e) := by
  subst hb
  refine Ev.succ ?_
  simp only [pack_Reader_Int.j0]
  refine Ev.neg (by simp) (Ev.succ ?_)
  simp only [pack_Reader_Int.j1]
  refine Ev.bind' (digits_e s a d e h) (Ev.neg h (Ev.succ ?_))
  simp only [pack_Reader_Int.j2]
  refine Ev.neg (by simp) (Ev.succ ?_)
  simp only [pack_Reader_Int.j3]
  exact Ev.bindc (take_e s a d e _ h) (Ev.neg h (Ev.now _))
theorem ev_cast {α : Type} {g : Nat → Option α} {a b : α} (h : Ev g a) (e : a = b) : Ev g b := e ▸ h
theorem ite_app {α β : Type} (c : Prop) [Decidable c] (f : α → β) (x y : α) : f (if c then x else y) = if c then f x else f y := by split <;> rfl

set_option maxHeartbeats 2000000 in
theorem int_ev (l : List UInt8) (hl : l.length ≤ 1000000000) (d : Int) (i : Nat) (_hi : i ≤ l.length) :
    Ev (fun k => pack_Reader_Int.f k (B l) (i : Int) d 0) ((intS (l.drop i)).1, B l, ((i + (intS (l.drop i)).2.1 : Nat) : Int), d, ((intS (l.drop i)).2.2 : Int)) := by
  unfold pack_Reader_Int.f
  cases hr : l.drop i with
  | nil =>
    refine Ev.bindc (take_nil l i d _ hr) (Ev.neg (by simp) ?_)
    exact ev_cast (int_j0_e false _ _ _ _ (by simp) rfl) (by simp [intS])
  | cons x r =>
    obtain ⟨hb, hlt, hr2⟩ := bt_drop hr
    have ht := take_cons l hl i d 105 x r hr
    by_cases hx : x.toNat = 105
    · rw [if_pos hx] at ht
      have hx2 : ¬ x ≠ 105 := fun h => h (UInt8.toNat_inj.1 hx)
      refine Ev.bindc ht ?_
      dsimp only
      refine Ev.pos (by simp) ?_
      have hmid : ∀ m : Nat, m ≤ 1 → i + 1 + m ≤ l.length → (if r.head? = some 45 then 1 else 0) = m → Ev (fun k => pack_Reader_Int.j1 k (decide (m = 1)) (B l) ((i + 1 + m : Nat) : Int) d 0) ((intS (x :: r)).1, B l, ((i + (intS (x :: r)).2.1 : Nat) : Int), d, ((intS (x :: r)).2.2 : Int)) := by
        intro m hm him hmr
        refine ev_cast (int_mid l hl d m hm (i + 1 + m) him) ?_
        have hdr : l.drop (i + 1 + m) = r.drop m := by rw [← hr2, List.drop_drop]
        simp only [intS, if_neg hx2, hmr]
        rw [hdr]
        have hdd : l.drop (i + 1 + m + (digS (r.drop m) 0 false 0).2.1) = (r.drop m).drop (digS (r.drop m) 0 false 0).2.1 := by rw [← hdr, List.drop_drop]
        rw [hdd]
        generalize digS (r.drop m) 0 false 0 = D
        by_cases h1 : D.2.2 ≠ 0
        · rw [if_pos h1, if_pos h1]
          simp only [Nat.add_assoc]
        · rw [if_neg h1, if_neg h1]
          by_cases h2 : 9223372036854775808 < D.1 ∨ (m = 0 ∧ D.1 = 9223372036854775808) ∨ (m = 1 ∧ D.1 = 0)
          · rw [if_pos h2, if_pos h2]
            simp only [Nat.add_assoc]
            rfl
          · rw [if_neg h2, if_neg h2]
            cases (r.drop m).drop D.2.1 with
            | nil =>
              simp only [Nat.add_assoc]
              rfl
            | cons y s =>
              simp only
              by_cases hy : y ≠ 59
              · rw [if_pos hy, if_pos hy]
                simp only [Nat.add_assoc]
                rfl
              · rw [if_neg hy, if_neg hy]
                simp only [Nat.add_assoc, decide_eq_true_eq]
                rfl
      cases hr3 : r with
      | nil =>
        have hle : l.length ≤ i + 1 := drop_nil (by rw [hr2, hr3])
        refine Ev.neg (by rw [B_size]; omega) (Ev.succ ?_)
        simp only [pack_Reader_Int.j0]
        refine Ev.neg (by simp) ?_
        have := hmid 0 (by omega) (by omega) (by rw [hr3]; rfl)
        rw [hr3] at this
        exact this
      | cons y r4 =>
        have hr5 : l.drop (i + 1) = y :: r4 := by rw [hr2, hr3]
        obtain ⟨hb2, hlt2, hr6⟩ := bt_drop hr5
        refine Ev.pos (by rw [B_size]; omega) (Ev.pos (by omega) ?_)
        rw [hb2]
        by_cases hy : y.toNat = 45
        · have : ((y.toNat : Int) == 45) = true := by simp; omega
          rw [this]
          refine Ev.succ ?_
          simp only [pack_Reader_Int.j0]
          refine Ev.pos (by simp) ?_
          have hw : wrap64 (((i + 1 : Nat) : Int) + 1) = ((i + 1 + 1 : Nat) : Int) := by rw [w64 (by omega) (by omega)]; omega
          rw [hw]
          have hy2 : y = 45 := UInt8.toNat_inj.1 hy
          have := hmid 1 (by omega) (by omega) (by rw [hr3, hy2]; rfl)
          rw [hr3] at this
          exact this
        · have : ((y.toNat : Int) == 45) = false := by simp; omega
          rw [this]
          refine Ev.succ ?_
          simp only [pack_Reader_Int.j0]
          refine Ev.neg (by simp) ?_
          have hy2 : y ≠ 45 := by rintro rfl; exact hy rfl
          have := hmid 0 (by omega) (by omega) (by rw [hr3]; simp [hy2])
          rw [hr3] at this
          exact this
    · rw [if_neg hx] at ht
      have hx2 : x ≠ 105 := by rintro rfl; exact hx rfl
      refine Ev.bindc ht (Ev.neg (by simp) ?_)
      exact ev_cast (int_j0_e false _ _ _ _ (by simp) rfl) (by simp [intS, hx2])

theorem text_j2_e (v : Int) (s : ByteArray) (a d e : Int) (h : e ≠ 0) : Ev (fun k => pack_Reader_Text.j2 k v false s a d e) (⟨#[]⟩, s, a, d, e) := by
  refine Ev.succ ?_
  simp only [pack_Reader_Text.j2]
  exact Ev.neg (by simp) (Ev.neg h (Ev.now _))
theorem text_j1_e (v : Int) (s : ByteArray) (a d e : Int) (h : e ≠ 0) : Ev (fun k => pack_Reader_Text.j1 k v s a d e) (⟨#[]⟩, s, a, d, e) := by
  refine Ev.succ ?_
  simp only [pack_Reader_Text.j1]
  exact Ev.bindc (take_e s a d e _ h) (Ev.neg h (text_j2_e v s a d e h))
theorem text_e (s : ByteArray) (a d e m : Int) (h : e ≠ 0) : Ev (fun k => pack_Reader_Text.f k s a d e m) (⟨#[]⟩, s, a, d, e) := by
  unfold pack_Reader_Text.f
  refine Ev.bind' (digits_e s a d e h) (Ev.neg h (Ev.succ ?_))
  simp only [pack_Reader_Text.j0]
  exact Ev.neg (by simp) (text_j1_e _ s a d e h)
theorem mx0 (m : Int) : mx m 0 = max m 0 := by unfold mx; omega
set_option maxHeartbeats 2000000 in
theorem text_ev (l : List UInt8) (hl : l.length ≤ 1000000000) (d : Int) (i : Nat) (hi : i ≤ l.length) (most : Int) (hm : most ≤ 9223372036854775807) :
    Ev (fun k => pack_Reader_Text.f k (B l) (i : Int) d 0 most) (B (textS most (l.drop i)).1, B l, ((i + (textS most (l.drop i)).2.1 : Nat) : Int), d, ((textS most (l.drop i)).2.2 : Int)) := by
  unfold pack_Reader_Text.f
  have hd := digits_0 l hl d i hi
  have hle := digS_le (l.drop i) 0 false 0
  rw [List.length_drop] at hle
  have hdr : (l.drop i).drop (digS (l.drop i) 0 false 0).2.1 = l.drop (i + (digS (l.drop i) 0 false 0).2.1) := List.drop_drop ..
  unfold textS
  simp only
  rw [hdr]
  generalize digS (l.drop i) 0 false 0 = D at *
  obtain ⟨v, c, e⟩ := D
  dsimp only at hd hle hdr ⊢
  refine Ev.bind' hd ?_
  dsimp only
  by_cases he : e = 0
  · subst he
    refine Ev.pos (by simp) ?_
    rw [if_neg (by simp), mx0, wu64 (by omega) (by omega)]
    by_cases hbig : (v : Int) > max most 0
    · rw [if_pos hbig]
      refine Ev.succ ?_
      simp only [pack_Reader_Text.j0]
      refine Ev.pos (by simpa using hbig) (Ev.bindc (fail_0 _ _ _ _) ?_)
      exact text_j1_e _ _ _ _ _ (by simp)
    · rw [if_neg hbig]
      refine Ev.succ ?_
      simp only [pack_Reader_Text.j0]
      refine Ev.neg (by simpa using hbig) (Ev.succ ?_)
      simp only [pack_Reader_Text.j1]
      cases hr : l.drop (i + c) with
      | nil =>
        refine Ev.bindc (take_nil l (i + c) d _ hr) (Ev.neg (by simp) ?_)
        exact text_j2_e _ _ _ _ _ (by simp)
      | cons y s =>
        obtain ⟨hb, hlt, hr2⟩ := bt_drop hr
        have ht := take_cons l hl (i + c) d 58 y s hr
        by_cases hy : y.toNat = 58
        · rw [if_pos hy] at ht
          have hy2 : ¬ y ≠ 58 := fun h => h (UInt8.toNat_inj.1 hy)
          refine Ev.bindc ht ?_
          dsimp only
          refine Ev.pos rfl ?_
          simp only [if_neg hy2]
          have hls : s.length = l.length - (i + c + 1) := by rw [← hr2, List.length_drop]
          have hz : IntKind.u64.wrap (wrap64 (((B l).size : Int) - ((i + c + 1 : Nat) : Int))) = (s.length : Int) := by
            rw [B_size, w64 (by omega) (by omega), wu64 (by omega) (by omega)]
            omega
          rw [hz]
          clear hz
          refine Ev.succ ?_
          simp only [pack_Reader_Text.j2]
          by_cases hs : s.length < v
          · rw [if_pos hs]
            refine Ev.pos (by simp; omega) (Ev.bindc (fail_0 _ _ _ _) (Ev.neg (by simp) (Ev.now _)))
          · rw [if_neg hs]
            refine Ev.neg (by simp; omega) (Ev.pos (by simp) ?_)
            rw [w64 (n := (v : Int)) (by omega) (by omega)]
            have e1 : ((i + c + 1 : Nat) : Int) + (v : Int) = ((i + c + 1 + v : Nat) : Int) := by omega
            have e2 : ((i + c + 1 + v : Nat) : Int) - (v : Int) = ((i + c + 1 : Nat) : Int) := by omega
            rw [e1, w64 (n := ((i + c + 1 + v : Nat) : Int)) (by omega) (by omega), e2, w64 (n := ((i + c + 1 : Nat) : Int)) (by omega) (by omega)]
            refine Ev.pos (by omega) (Ev.pos (by omega) (Ev.pos (by rw [B_size]; omega) ?_))
            rw [Int.toNat_natCast, Int.toNat_natCast, B_extract, hr2, show i + c + 1 + v - (i + c + 1) = v by omega]
            exact ev_cast (Ev.now _) (by simp only [Nat.add_assoc]; rfl)
        · rw [if_neg hy] at ht
          have hy2 : y ≠ 58 := by rintro rfl; exact hy rfl
          refine Ev.bindc ht (Ev.neg (by simp) ?_)
          simp only [if_pos hy2]
          exact text_j2_e _ _ _ _ _ (by simp)
  · rw [if_pos he]
    refine Ev.neg (by omega) (Ev.succ ?_)
    simp only [pack_Reader_Text.j0]
    exact Ev.neg (by simp) (text_j1_e _ _ _ _ _ (by omega))

/-- a list begins: how many bytes are taken, how deep it is then, the error -/
def openS (d : Nat) (r : List UInt8) : Nat × Nat × Nat :=
  if 60 ≤ d then (0, d, 14) else match r with
  | [] => (0, d, 2)
  | x :: _ => if x = 40 then (1, d + 1, 0) else (0, d, 3)
def closeS (d : Nat) (r : List UInt8) : Nat × Nat × Nat :=
  if d = 0 then (0, d, 3) else match r with
  | [] => (0, d, 2)
  | x :: _ => if x = 41 then (1, d - 1, 0) else (0, d, 3)
theorem open_e (s : ByteArray) (a d e : Int) (h : e ≠ 0) : Ev (fun k => pack_Reader_Open.f k s a d e) (s, a, d, e) := by
  unfold pack_Reader_Open.f
  refine Ev.neg h (Ev.succ ?_)
  simp only [pack_Reader_Open.j0]
  exact Ev.neg (by simp) (Ev.bindc (take_e s a d e _ h) (Ev.neg h (Ev.now _)))
theorem close_e (s : ByteArray) (a d e : Int) (h : e ≠ 0) : Ev (fun k => pack_Reader_Close.f k s a d e) (s, a, d, e) := by
  unfold pack_Reader_Close.f
  refine Ev.neg h (Ev.succ ?_)
  simp only [pack_Reader_Close.j0]
  exact Ev.neg (by simp) (Ev.bindc (take_e s a d e _ h) (Ev.neg h (Ev.now _)))
theorem open_ev (l : List UInt8) (hl : l.length ≤ 1000000000) (d : Nat) (i : Nat) (hd : d ≤ 1000000) :
    Ev (fun k => pack_Reader_Open.f k (B l) (i : Int) (d : Int) 0) (B l, ((i + (openS d (l.drop i)).1 : Nat) : Int), (((openS d (l.drop i)).2.1 : Nat) : Int), (((openS d (l.drop i)).2.2 : Nat) : Int)) := by
  unfold pack_Reader_Open.f openS
  refine Ev.pos (by simp) (Ev.succ ?_)
  simp only [pack_Reader_Open.j0]
  by_cases h60 : 60 ≤ d
  · rw [if_pos h60]
    refine Ev.pos (by simp; omega) (Ev.bindc (fail_0 _ _ _ _) (Ev.bindc (take_e _ _ _ _ _ (by simp)) (Ev.neg (by simp) ?_)))
    exact Ev.now _
  · rw [if_neg h60]
    refine Ev.neg (by simp; omega) ?_
    cases hr : l.drop i with
    | nil =>
      refine Ev.bindc (take_nil l i d _ hr) (Ev.neg (by simp) ?_)
      exact Ev.now _
    | cons x r =>
      have ht := take_cons l hl i d 40 x r hr
      simp only
      by_cases hx : x.toNat = 40
      · rw [if_pos hx] at ht
        have hx2 : x = 40 := UInt8.toNat_inj.1 hx
        rw [if_pos hx2]
        refine Ev.bindc ht (Ev.pos (by simp) ?_)
        have : wrap64 ((d : Int) + 1) = ((d + 1 : Nat) : Int) := by rw [w64 (by omega) (by omega)]; omega
        rw [this]
        exact Ev.now _
      · rw [if_neg hx] at ht
        have hx2 : ¬ x = 40 := by rintro rfl; exact hx rfl
        rw [if_neg hx2]
        refine Ev.bindc ht (Ev.neg (by simp) ?_)
        exact Ev.now _
theorem close_ev (l : List UInt8) (hl : l.length ≤ 1000000000) (d : Nat) (i : Nat) (hd : d ≤ 1000000) :
    Ev (fun k => pack_Reader_Close.f k (B l) (i : Int) (d : Int) 0) (B l, ((i + (closeS d (l.drop i)).1 : Nat) : Int), (((closeS d (l.drop i)).2.1 : Nat) : Int), (((closeS d (l.drop i)).2.2 : Nat) : Int)) := by
  unfold pack_Reader_Close.f closeS
  refine Ev.pos (by simp) (Ev.succ ?_)
  simp only [pack_Reader_Close.j0]
  by_cases h60 : d = 0
  · rw [if_pos h60]
    refine Ev.pos (by simp; omega) (Ev.bindc (fail_0 _ _ _ _) (Ev.bindc (take_e _ _ _ _ _ (by simp)) (Ev.neg (by simp) ?_)))
    exact Ev.now _
  · rw [if_neg h60]
    refine Ev.neg (by simp; omega) ?_
    cases hr : l.drop i with
    | nil =>
      refine Ev.bindc (take_nil l i d _ hr) (Ev.neg (by simp) ?_)
      exact Ev.now _
    | cons x r =>
      have ht := take_cons l hl i d 41 x r hr
      simp only
      by_cases hx : x.toNat = 41
      · rw [if_pos hx] at ht
        have hx2 : x = 41 := UInt8.toNat_inj.1 hx
        rw [if_pos hx2]
        refine Ev.bindc ht (Ev.pos (by simp) ?_)
        have : wrap64 ((d : Int) - 1) = ((d - 1 : Nat) : Int) := by rw [w64 (by omega) (by omega)]; omega
        rw [this]
        exact Ev.now _
      · rw [if_neg hx] at ht
        have hx2 : ¬ x = 41 := by rintro rfl; exact hx rfl
        rw [if_neg hx2]
        refine Ev.bindc ht (Ev.neg (by simp) ?_)
        exact Ev.now _
theorem more_0 (l : List UInt8) (i : Nat) (d : Int) : pack_Reader_More.f (B l) (i : Int) d 0 = some ((match l.drop i with | [] => false | x :: _ => x != 41), B l, (i : Int), d, 0) := by
  unfold pack_Reader_More.f
  rw [if_pos rfl]
  cases hr : l.drop i with
  | nil => have := drop_nil hr; rw [if_neg (by rw [B_size]; omega)]
  | cons x r =>
    obtain ⟨hb, hlt, _⟩ := bt_drop hr
    rw [if_pos (by rw [B_size]; omega), if_pos (by omega), hb]
    have : ((x.toNat : Int) != 41) = (x != 41) := by
      by_cases hx : x = 41
      · subst hx; rfl
      · have : x.toNat ≠ 41 := fun h => hx (UInt8.toNat_inj.1 h)
        have h1 : ((x.toNat : Int) != 41) = true := by simp; omega
        rw [h1]; symm; simpa using hx
    rw [this]
theorem more_e (s : ByteArray) (a d e : Int) (h : e ≠ 0) : pack_Reader_More.f s a d e = some (false, s, a, d, e) := by unfold pack_Reader_More.f; rw [if_neg h]
theorem done_e (s : ByteArray) (a d e : Int) (h : e ≠ 0) : pack_Reader_Done.f s a d e = some (e, s, a, d, e) := by
  unfold pack_Reader_Done.f
  rw [fail_e _ _ _ _ _ h]
  split
  · rfl
  · split <;> rfl
theorem done_0 (l : List UInt8) (i : Nat) (d : Int) : pack_Reader_Done.f (B l) (i : Int) d 0 = if l.length ≤ i ∧ d ≤ 0 then some (0, B l, (i : Int), d, 0) else some (3, B l, (i : Int), d, 3) := by
  unfold pack_Reader_Done.f
  rw [fail_0, B_size]
  by_cases h1 : l.length ≤ i
  · rw [if_neg (by omega)]
    by_cases h2 : d ≤ 0
    · rw [if_neg (by omega), if_pos ⟨h1, h2⟩]
    · rw [if_pos (by omega), if_neg (by omega)]; rfl
  · rw [if_pos (by omega), if_neg (by omega)]; rfl
end Go.Proofs.YtghabadccaghcaaDoor.Pr
