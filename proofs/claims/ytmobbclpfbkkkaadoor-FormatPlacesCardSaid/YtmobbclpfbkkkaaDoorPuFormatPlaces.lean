/- Fewer places are the beginning of more: the pure statement. -/
import Derived.Test.YtmobbclpfbkkkaaDoorPuFmtGood
import Derived.Test.YtmobbclpfbkkkaaDoorPuFmtM
import Derived.Test.YtmobbclpfbkkkaaDoorPr23
namespace Go.Proofs.YtmobbclpfbkkkaaDoor.Pr
open Go Go.RowKit Go.Proofs.YtmobbclpfbkkkaaDoorW.PrintWords Go.Proofs.YtmobbclpfbkkkaaDoorW.PrintLast Go.Proofs.YtmobbclpfbkkkaaDoorW.PrintMore

theorem FormatPlaces_ev (a0 : Int) (a1 : Int) (a2 : ByteArray) (n : Int) (_w0 : (Lit.int .i64 a0).wf = true) (_w1 : (Lit.int .i64 a1).wf = true) (_w2 : a2.size ≤ 140737488351232) (_w3 : (Lit.int .i64 n).wf = true) :
    Ev (fun k => scribelaw07_FormatPlaces.f k a0 a1 a2 n) true := by
  unfold scribelaw07_FormatPlaces.f
  obtain ⟨r, hr, hrl, hok⟩ := good7_ev [⟨a0, a1, a2⟩] 1 (by omega)
  refine Ev.bind' hr ?_
  have out : Ev (fun k => scribelaw07_FormatPlaces.j0 k n r true) true := by
    refine Ev.succ ?_
    simp only [scribelaw07_FormatPlaces.j0]
    exact Ev.pos (by simp) (Ev.bind' (f := fun _ t => some t) awake7_ev (Ev.now _))
  by_cases h1 : (r.length : Int) < 1
  · exact Ev.pos h1 out
  · refine Ev.neg h1 ?_
    by_cases h2 : n < 1
    · exact Ev.pos h2 out
    · refine Ev.neg h2 ?_
      by_cases h3 : n > 6
      · rw [decide_eq_true h3]; exact out
      · rw [decide_eq_false h3]
        obtain ⟨m, rfl⟩ := Int.eq_ofNat_of_zero_le (show 0 ≤ n by omega)
        match r, hrl, h1, hok, out with
        | [x], _, _, hok, _ =>
          have hx := hok x (by simp)
          obtain ⟨hd1, hd2⟩ := dig_num m (by omega)
          have es : strOfNums [(wrap64 (48 + (m : Int))) % 256] = B [UInt8.ofNat (48 + m)] := by
            rw [← strOf_one, hd2, w64 (by omega) (by omega)]
            congr 2
            omega
          have e1 : (((⟨#[37, 46]⟩ : ByteArray) ++ B [UInt8.ofNat (48 + m)]) ++ (⟨#[102]⟩ : ByteArray)) = B (37 :: ([46] ++ ([UInt8.ofNat (48 + m)] ++ [102]))) := by
            rw [show (⟨#[37, 46]⟩ : ByteArray) = B [37, 46] from rfl, show (⟨#[102]⟩ : ByteArray) = B [102] from rfl, B_append, B_append]; rfl
          have p1 := conv_verb _ _ (places_spec m (by omega) (by omega)) (by rfl) (by simp) (by simp; omega) (cl x) hx
          have p2 := conv_verb _ _ spec_f (by rfl) (by simp) (by simp) (cl x) hx
          have q1 := print_some (37 :: ([46] ++ ([UInt8.ofNat (48 + m)] ++ [102]))) [x] (by simp) hok
          have q2 := print_some [37, 102] [x] (by simp) hok
          rw [List.map_cons, List.map_nil, p1] at q1
          rw [List.map_cons, List.map_nil, p2] at q2
          obtain ⟨k1, k2⟩ := places_law m (by omega) (by omega) (cl x)
          have l1 := oneC_le ⟨FS.none, 0, (m : Int), 102⟩ (cl x) hx (by simp) (by simp; omega)
          generalize oneC ⟨FS.none, 0, (m : Int), 102⟩ (cl x) = S1 at *
          generalize oneC ⟨FS.none, 0, -1, 102⟩ (cl x) = S2 at *
          refine Ev.succ ?_
          simp only [scribelaw07_FormatPlaces.j0]
          refine Ev.neg (by simp) (Ev.bindc rfl ?_)
          rw [es]
          refine Ev.pos (by rw [B_size]; simp) (Ev.pos (by rw [show (⟨#[37, 46]⟩ : ByteArray) = B [37, 46] from rfl, B_append, B_size]; simp) ?_)
          rw [e1]
          refine Ev.bindc q1 (Ev.bindc q2 (Ev.pos rfl (Ev.pos rfl ?_)))
          refine Ev.pos (by simp only [B_size]; rw [w64 (n := (S1.length : Int) + 6) (by omega) (by omega), w64 (by omega) (by omega)]; omega) (Ev.bind' awake7_ev (Ev.pos rfl ?_))
          refine Ev.pos (by simp only [B_size]; omega) (Ev.pos (by simp only [B_size]; omega) (Ev.const ?_))
          rw [B_extract, B_toList, B_toList, B_size, List.drop_zero, Nat.sub_zero, Int.toNat_natCast, k2]
          simp
        | [], _, h1, _, _ => simp at h1

end Go.Proofs.YtmobbclpfbkkkaaDoor.Pr
