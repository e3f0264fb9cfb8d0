/- A value is as wide as is told: the pure statement. -/
import Derived.Test.YtmobbclpfbkkkaaDoorPuFmtGood
import Derived.Test.YtmobbclpfbkkkaaDoorPuFmtM
import Derived.Test.YtmobbclpfbkkkaaDoorPuJi
import Derived.Test.YtmobbclpfbkkkaaDoorPr18
import Derived.Test.YtmobbclpfbkkkaaDoorPr22
namespace Go.Proofs.YtmobbclpfbkkkaaDoor.Pr
open Go Go.RowKit Go.Proofs.YtmobbclpfbkkkaaDoorW.PrintWords Go.Proofs.YtmobbclpfbkkkaaDoorW.PrintLast Go.Proofs.YtmobbclpfbkkkaaDoorW.PrintMore

theorem cellInt_ev (n : Nat) (h : n ≤ 100) : Ev (fun k => cell_Int.f k (n : Int)) (1, ((n * 1000000 : Nat) : Int), (⟨#[]⟩ : ByteArray)) := by
  unfold cell_Int.f
  have := int_ev (n : Int) (by omega) (by omega)
  rw [near_fit _ (by unfold fitI; omega)] at this
  refine Ev.bind' this (Ev.const ?_)
  first | rfl | (congr 1)
theorem oneC_int (n : Nat) (h : n ≤ 100) : oneC ⟨FS.none, 0, -1, 100⟩ (1, ((n * 1000000 : Nat) : Int), []) = Lib.decDigits n := by
  have e : oneC ⟨FS.none, 0, -1, 100⟩ (1, ((n * 1000000 : Nat) : Int), []) = wholeS ⟨FS.none, 0, -1, 100⟩ ((n * 1000000 : Nat) : Int) (Lib.decDigits ((((n * 1000000 : Nat) : Int)).natAbs / 1000000)) := rfl
  rw [e, show (((n * 1000000 : Nat) : Int)).natAbs / 1000000 = n by omega]
  unfold wholeS
  simp only
  rw [if_neg (by omega), padS_none, decide_eq_false (by omega)]
  have : (-1 - ((Lib.decDigits n).length : Int)).toNat = 0 := by omega
  rw [this]
  rfl
theorem FormatWide_ev (a0 a1 : Bool) (w : Int) (v : Int) (k0 n0 : Int) (s0 : ByteArray) (_w2 : (Lit.int .i64 w).wf = true) (w3 : (Lit.int .u8 v).wf = true)
    (_w4 : (Lit.int .i64 k0).wf = true) (_w5 : (Lit.int .i64 n0).wf = true) (_w6 : s0.size ≤ 140737488351232) : Ev (fun k => scribelaw07_FormatWide.f k a0 a1 w v k0 n0 s0) true := by
  have hv : 0 ≤ v ∧ v < 256 := by
    simp [Lit.wf] at w3
    rw [show IntKind.u8.min = 0 from rfl, show IntKind.u8.max = 255 from rfl] at w3
    omega
  unfold scribelaw07_FormatWide.f
  obtain ⟨r, hr, hrl, hok⟩ := good7_ev [⟨k0, n0, s0⟩] 1 (by omega)
  refine Ev.bind' hr ?_
  have out : Ev (fun k => scribelaw07_FormatWide.j0 k a0 a1 w v r true) true := by
    refine Ev.succ ?_
    simp only [scribelaw07_FormatWide.j0]
    exact Ev.pos (by simp) (Ev.bind' (f := fun _ t => some t) awake7_ev (Ev.now _))
  by_cases h1 : w < 0
  · exact Ev.pos h1 out
  · refine Ev.neg h1 ?_
    by_cases h2 : w > 100
    · exact Ev.pos h2 out
    · refine Ev.neg h2 ?_
      by_cases h3 : (r.length : Int) < 1
      · rw [decide_eq_true h3]; exact out
      · rw [decide_eq_false h3]
        obtain ⟨m, rfl⟩ := Int.eq_ofNat_of_zero_le (show 0 ≤ w by omega)
        obtain ⟨c, rfl⟩ : ∃ c : UInt8, v = (c.toNat : Int) := ⟨UInt8.ofNat v.toNat, by rw [UInt8.toNat_ofNat']; omega⟩
        match r, hrl, h3, hok with
        | [], _, h3, _ => simp at h3
        | [x], _, _, hok =>
          have hx := hok x (by simp)
          have hwl : (widL m).length ≤ 20 := by
            unfold widL
            split
            · simp
            · exact dec_le m (by omega)
          have last : ∀ (p1 p2 : List UInt8) (e1 e2 : Int), (verbs5 c = true → e1 = 0 ∧ e2 = 0 ∧ p1.length = max m p2.length) →
              Ev (fun k => if (c.toNat : Int) = 100 then (scribelaw07_FormatWide.j4 k (m : Int) (B p1) e1 (B p2) e2 true) else (if (c.toNat : Int) = 105 then (scribelaw07_FormatWide.j4 k (m : Int) (B p1) e1 (B p2) e2 true) else (if (c.toNat : Int) = 120 then (scribelaw07_FormatWide.j4 k (m : Int) (B p1) e1 (B p2) e2 true) else (if (c.toNat : Int) = 102 then (scribelaw07_FormatWide.j4 k (m : Int) (B p1) e1 (B p2) e2 true) else (if (c.toNat : Int) = 115 then (scribelaw07_FormatWide.j4 k (m : Int) (B p1) e1 (B p2) e2 true) else (scribelaw07_FormatWide.j4 k (m : Int) (B p1) e1 (B p2) e2 ((c.toNat : Int) == 99))))))) true := by
            intro p1 p2 e1 e2 hp
            have yes : verbs5 c = true → Ev (fun k => scribelaw07_FormatWide.j4 k (m : Int) (B p1) e1 (B p2) e2 true) true := by
              intro hc
              obtain ⟨h1, h2, h3⟩ := hp hc
              refine Ev.succ ?_
              simp only [scribelaw07_FormatWide.j4]
              refine Ev.pos (by simp) (Ev.bind' awake7_ev (Ev.pos rfl (Ev.pos h1 (Ev.pos h2 (Ev.const ?_)))))
              rw [B_size, B_size, h3]
              have : ((max m p2.length : Nat) : Int) = mx (m : Int) (p2.length : Int) := by unfold mx; split <;> omega
              rw [this]
              simp
            have vd : ∀ d : Nat, d < 256 → (c.toNat : Int) = (d : Int) → c = UInt8.ofNat d := by
              intro d hd h
              apply UInt8.toNat_inj.1
              rw [UInt8.toNat_ofNat']
              omega
            by_cases c1 : (c.toNat : Int) = 100
            · exact Ev.pos c1 (yes (by rw [vd 100 (by omega) c1]; rfl))
            · refine Ev.neg c1 ?_
              by_cases c2 : (c.toNat : Int) = 105
              · exact Ev.pos c2 (yes (by rw [vd 105 (by omega) c2]; rfl))
              · refine Ev.neg c2 ?_
                by_cases c3 : (c.toNat : Int) = 120
                · exact Ev.pos c3 (yes (by rw [vd 120 (by omega) c3]; rfl))
                · refine Ev.neg c3 ?_
                  by_cases c4 : (c.toNat : Int) = 102
                  · exact Ev.pos c4 (yes (by rw [vd 102 (by omega) c4]; rfl))
                  · refine Ev.neg c4 ?_
                    by_cases c5 : (c.toNat : Int) = 115
                    · exact Ev.pos c5 (yes (by rw [vd 115 (by omega) c5]; rfl))
                    · refine Ev.neg c5 ?_
                      by_cases c6 : (c.toNat : Int) = 99
                      · rw [show ((c.toNat : Int) == 99) = true by simpa using c6]
                        exact yes (by rw [vd 99 (by omega) c6]; rfl)
                      · rw [show ((c.toNat : Int) == 99) = false by simpa using c6]
                        refine Ev.succ ?_
                        simp only [scribelaw07_FormatWide.j4]
                        exact Ev.neg (by simp) (Ev.bind' (f := fun _ t => some t) awake7_ev (Ev.now _))
          have j3 : ∀ f : List UInt8, f = 37 :: flagL a0 a1 → Ev (fun k => scribelaw07_FormatWide.j3 k (m : Int) (c.toNat : Int) [x] (B f) (B (widL m))) true := by
            intro f hf
            have hfl : f.length ≤ 3 := by
              rw [hf]; unfold flagL
              cases a0 <;> cases a1 <;> simp
            have q1 := print_some (f ++ widL m ++ [c]) [x] (by simp only [List.length_append, List.length_singleton]; omega) hok
            have q2 := print_some (37 :: [c]) [x] (by simp) hok
            refine Ev.succ ?_
            simp only [scribelaw07_FormatWide.j3]
            refine Ev.pos (by simp only [B_size]; omega) (Ev.bindc rfl ?_)
            rw [strOf_one, B_append, B_append]
            refine Ev.pos (by simp only [B_size, List.length_append, List.length_singleton]; omega) (Ev.bindc q1 (Ev.bindc rfl ?_))
            rw [strOf_one, show (⟨#[37]⟩ : ByteArray) = B [37] from rfl, B_append]
            refine Ev.pos (by simp [B_size]) (Ev.bindc q2 ?_)
            refine last _ _ _ _ (fun hc => ?_)
            have s1 := wide_spec a0 a1 m (by omega) c hc
            have s2 := wide_spec false false 0 (by omega) c hc
            have p1 := conv_verb _ _ s1 hc (by simp; omega) (by simp) (cl x) hx
            have p2 := conv_verb _ _ s2 hc (by simp) (by simp) (cl x) hx
            have e1 : f ++ widL m ++ [c] = 37 :: (flagL a0 a1 ++ (widL m ++ [c])) := by rw [hf]; simp
            rw [e1, List.map_cons, List.map_nil, p1]
            rw [show (37 :: (flagL false false ++ (widL 0 ++ [c])) : List UInt8) = 37 :: [c] from rfl] at p2
            rw [p2]
            exact ⟨rfl, rfl, oneC_wide a0 a1 m c (cl x)⟩
          have j2 : ∀ f : List UInt8, f = 37 :: flagL a0 a1 → Ev (fun k => scribelaw07_FormatWide.j2 k (m : Int) (c.toNat : Int) [x] (B f)) true := by
            intro f hf
            refine Ev.succ ?_
            simp only [scribelaw07_FormatWide.j2]
            have hokw : ∀ y ∈ [(⟨1, ((m * 1000000 : Nat) : Int), (⟨#[]⟩ : ByteArray)⟩ : S32)], okCl (cl y) := by
              intro y hy
              rw [List.mem_singleton.1 hy]
              refine ⟨?_, ?_, by simp [cl]⟩
              · show fitI ((m * 1000000 : Nat) : Int)
                unfold fitI; omega
              · have := textS_le ((m * 1000000 : Nat) : Int) (by unfold fitI; omega)
                show (textS ((m * 1000000 : Nat) : Int)).length ≤ 400
                omega
            have q := print_some [37, 100] [⟨1, ((m * 1000000 : Nat) : Int), (⟨#[]⟩ : ByteArray)⟩] (by simp) hokw
            have p := conv_verb [100] ⟨FS.none, 0, -1, 100⟩ rfl rfl (by simp) (by simp) (1, ((m * 1000000 : Nat) : Int), []) (hokw ⟨1, ((m * 1000000 : Nat) : Int), (⟨#[]⟩ : ByteArray)⟩ (by simp))
            rw [oneC_int m (by omega)] at p
            rw [List.map_cons, List.map_nil, show cl ⟨1, ((m * 1000000 : Nat) : Int), (⟨#[]⟩ : ByteArray)⟩ = (1, ((m * 1000000 : Nat) : Int), []) from rfl, p] at q
            refine Ev.bind' (cellInt_ev m (by omega)) (Ev.bindc q (Ev.pos rfl ?_))
            have := j3 f hf
            by_cases h0 : (m : Int) = 0
            · rw [show widL m = [] by unfold widL; rw [if_pos (by omega)]] at this
              exact Ev.pos h0 this
            · rw [show widL m = Lib.decDigits m by unfold widL; rw [if_neg (by omega)]] at this
              exact Ev.neg h0 this
          have j1 : ∀ f : List UInt8, f = 37 :: (if a0 = true then [45] else []) → Ev (fun k => scribelaw07_FormatWide.j1 k a1 (m : Int) (c.toNat : Int) [x] (B f)) true := by
            intro f hf
            refine Ev.succ ?_
            simp only [scribelaw07_FormatWide.j1]
            by_cases h : a1 = true
            · refine Ev.pos h (Ev.pos (by rw [hf, B_size]; cases a0 <;> simp) ?_)
              rw [show (⟨#[48]⟩ : ByteArray) = B [48] from rfl, B_append]
              exact j2 _ (by rw [hf, h]; simp [flagL])
            · refine Ev.neg h (j2 _ ?_)
              rw [hf]
              simp [flagL, h]
          refine Ev.succ ?_
          simp only [scribelaw07_FormatWide.j0]
          refine Ev.neg (by simp) ?_
          by_cases h : a0 = true
          · refine Ev.pos h (Ev.pos (by omega) ?_)
            rw [show (⟨#[37]⟩ : ByteArray) = B [37] from rfl, show (⟨#[45]⟩ : ByteArray) = B [45] from rfl, B_append]
            exact j1 _ (by rw [if_pos h]; rfl)
          · refine Ev.neg h (j1 [37] (by rw [if_neg h]))

end Go.Proofs.YtmobbclpfbkkkaaDoor.Pr
