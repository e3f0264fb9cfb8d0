/- Any text between quotes is a String: the pure statement. -/
import Derived.Test.YtpnkcihiliagcaaDoorPuLxQ
import Derived.Test.YtpnkcihiliagcaaDoorPr13
namespace Go.Proofs.YtpnkcihiliagcaaDoor.Pr
open Go Go.RowKit Go.Proofs.YtpnkcihiliagcaaDoorW.PrintWords Go.Proofs.YtpnkcihiliagcaaDoorW.PrintLast Go.Proofs.YtpnkcihiliagcaaDoorW.PrintMore
set_option linter.unusedVariables false
set_option linter.unusedSimpArgs false

theorem escL_snoc (l : List UInt8) (c : UInt8) : escL (l ++ [c]) = escL l ++ escB c := by
  induction l with
  | nil => simp [escL]
  | cons a l ih => simp [escL, ih]
theorem mk_app (a b : List UInt8) : (⟨a.toArray⟩ : ByteArray) ++ (⟨b.toArray⟩ : ByteArray) = ⟨(a ++ b).toArray⟩ := by
  apply ByteArray.ext
  simp
theorem mk_size (a : List UInt8) : (⟨a.toArray⟩ : ByteArray).size = a.length := by
  show a.toArray.size = _
  simp
theorem one_byte (s : ByteArray) (i : Nat) (h : i < s.size) : s.extract ((i : Int)).toNat (((i + 1 : Nat) : Int)).toNat = ⟨[s.data.toList[i]'(by simpa using h)].toArray⟩ := by
  apply ByteArray.ext
  rw [ByteArray.data_extract, Int.toNat_natCast, Int.toNat_natCast]
  apply Array.ext
  · have : s.data.size = s.size := rfl
    simp; omega
  · intro j h1 h2
    have hj : j = 0 := by simp at h2; omega
    subst hj
    simp
theorem bt_list (s : ByteArray) (i : Nat) (h : i < s.size) : bt s (i : Int) = ((s.data.toList[i]'(by simpa using h)).toNat : Int) := by
  unfold bt
  rw [dif_pos (by simpa using h)]
  simp
  rfl
theorem u8_eq {c : UInt8} {n : Nat} (hn : n < 256) : ((c.toNat : Int) = (n : Int)) ↔ c = n.toUInt8 := by
  constructor
  · intro h
    apply UInt8.toNat_inj.1
    have : c.toNat = n := Int.ofNat_inj.1 h
    rw [this]
    simp [Nat.mod_eq_of_lt hn]
  · rintro rfl
    simp [Nat.mod_eq_of_lt hn]
theorem strings_loop (s : ByteArray) (hs : s.size ≤ 200) (d : Nat) : ∀ i : Nat, i + d = s.size → Ev (fun k => scribelaw11_LexStrings.l0 k s ⟨(escL (s.data.toList.take i)).toArray⟩ (i : Int)) true := by
  have hl : s.data.toList.length = s.size := by simp
  induction d with
  | zero =>
    intro i hi
    have ht : s.data.toList.take i = s.data.toList := List.take_of_length_le (by omega)
    have he := esc_len s.data.toList
    have hq := lex_quote s (by omega)
    rw [ht]
    refine Ev.succ ?_
    simp only [scribelaw11_LexStrings.l0]
    have e : ((⟨#[34]⟩ : ByteArray) ++ (⟨(escL s.data.toList).toArray⟩ : ByteArray)) ++ (⟨#[34]⟩ : ByteArray) = (⟨#[34]⟩ : ByteArray) ++ ⟨(escL s.data.toList ++ [34]).toArray⟩ := by
      rw [ByteArray.append_assoc]
      congr 1
    have hz : (⟨#[34]⟩ : ByteArray).size = 1 := rfl
    rw [e]
    refine Ev.neg (by omega) (Ev.pos (by rw [mk_size]; omega) (Ev.pos (by rw [ByteArray.size_append, hz, mk_size]; omega) (Ev.bindc hq (Ev.bindc awake11_ev (Ev.pos rfl (Ev.pos rfl (Ev.pos rfl (Ev.pos (by simp) ?_))))))))
    have e2 : ∀ x y : Tok, rd_T29 [x, y] 0 = x := fun _ _ => rfl
    rw [e2]
    simp
    exact Ev.now _
  | succ d ih =>
    intro i hi
    have hlt : i < s.size := by omega
    have hlt2 : i < s.data.toList.length := by omega
    have hts : s.data.toList.take (i + 1) = s.data.toList.take i ++ [s.data.toList[i]] := by rw [List.take_succ_eq_append_getElem hlt2]
    have hne : escL (s.data.toList.take (i + 1)) = escL (s.data.toList.take i) ++ escB (s.data.toList[i]) := by rw [hts, escL_snoc]
    have hw : wrap64 ((i : Int) + 1) = ((i + 1 : Nat) : Int) := by rw [w64 (by omega) (by omega)]; omega
    have he := esc_len (s.data.toList.take i)
    have htl : (s.data.toList.take i).length ≤ i := List.length_take_le _ _
    have hi2 := ih (i + 1) (by omega)
    rw [hne] at hi2
    have hb := bt_list s i hlt
    have hone := one_byte s i hlt
    generalize s.data.toList[i] = c at *
    have j : ∀ b : Bool, (b = true ↔ (c = 34 ∨ c = 92)) → Ev (fun k => scribelaw11_LexStrings.j1 k s ⟨(escL (s.data.toList.take i)).toArray⟩ (i : Int) (c.toNat : Int) b) true := by
      intro b hbb
      refine Ev.succ ?_
      simp only [scribelaw11_LexStrings.j1]
      rw [hw, hone]
      by_cases h1 : c = 34 ∨ c = 92
      · have hE : escB c = [92, c] := by rw [escB, if_pos h1]
        rw [hE] at hi2
        have e : (⟨(escL (s.data.toList.take i)).toArray⟩ : ByteArray) ++ ((⟨#[92]⟩ : ByteArray) ++ (⟨[c].toArray⟩ : ByteArray)) = ⟨(escL (s.data.toList.take i) ++ [92, c]).toArray⟩ := by
          rw [show (⟨#[92]⟩ : ByteArray) ++ (⟨[c].toArray⟩ : ByteArray) = ⟨([92, c]).toArray⟩ from mk_app [92] [c], mk_app]
        rw [e]
        have hz2 : ((⟨#[92]⟩ : ByteArray) ++ (⟨[c].toArray⟩ : ByteArray)).size = 2 := by rw [show (⟨#[92]⟩ : ByteArray) ++ (⟨[c].toArray⟩ : ByteArray) = ⟨([92, c]).toArray⟩ from mk_app [92] [c]]; rfl
        exact Ev.pos (hbb.2 h1) (Ev.pos (by omega) (Ev.pos (by omega) (Ev.pos (by omega) (Ev.pos (by rw [mk_size]; simp) (Ev.pos (by rw [mk_size, hz2]; omega) hi2)))))
      · refine Ev.neg (fun h => h1 (hbb.1 h)) ?_
        by_cases h2 : c = 10
        · subst h2
          have e : (⟨(escL (s.data.toList.take i)).toArray⟩ : ByteArray) ++ (⟨#[92, 110]⟩ : ByteArray) = ⟨(escL (s.data.toList.take i) ++ [92, 110]).toArray⟩ := mk_app _ [92, 110]
          rw [e]
          exact Ev.pos rfl (Ev.pos (by rw [mk_size]; omega) hi2)
        · have hE : escB c = [c] := by rw [escB, if_neg h1, if_neg h2]
          rw [hE] at hi2
          rw [mk_app]
          exact Ev.neg (fun h => h2 ((u8_eq (n := 10) (by decide)).1 h)) (Ev.pos (by omega) (Ev.pos (by omega) (Ev.pos (by omega) (Ev.pos (by rw [mk_size, mk_size]; simp; omega) hi2))))
    refine Ev.succ ?_
    simp only [scribelaw11_LexStrings.l0]
    rw [hb]
    refine Ev.pos (by omega) (Ev.pos (by omega) ?_)
    by_cases h34 : (c.toNat : Int) = 34
    · refine Ev.pos h34 (j _ ?_)
      have := (u8_eq (n := 34) (by decide)).1 h34
      subst this
      decide
    · refine Ev.neg h34 (j _ ?_)
      have n34 : c ≠ 34 := fun h => h34 (by rw [h]; rfl)
      constructor
      · intro h
        exact .inr ((u8_eq (n := 92) (by decide)).1 (by simpa using h))
      · rintro (h | h)
        · exact absurd h n34
        · rw [h]; rfl
theorem LexStrings_ev (a0 : ByteArray) (_w0 : a0.size ≤ 140737488351232) : Ev (fun k => scribelaw11_LexStrings.f k a0) true := by
  unfold scribelaw11_LexStrings.f
  obtain ⟨a, ha, has⟩ := cut_some a0 200
  refine Ev.bindc ha ?_
  have := strings_loop a has a.size 0 (Nat.zero_add _)
  simpa [escL] using this
end Go.Proofs.YtpnkcihiliagcaaDoor.Pr
