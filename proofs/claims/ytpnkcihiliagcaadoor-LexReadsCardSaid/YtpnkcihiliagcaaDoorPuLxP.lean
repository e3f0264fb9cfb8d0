/- lex.Print: what it computes, walked by hand. -/
import Derived.Test.YtpnkcihiliagcaaDoorPuLxM
import Derived.Lib.OthersKept
set_option linter.unusedVariables false
set_option linter.unusedSimpArgs false
namespace Go.Proofs.YtpnkcihiliagcaaDoor.Pr
open Go Go.RowKit Go.Proofs.YtpnkcihiliagcaaDoorW.PrintWords Go.Proofs.YtpnkcihiliagcaaDoorW.PrintLast Go.Proofs.YtpnkcihiliagcaaDoorW.PrintMore

def kindsT : List ByteArray := [⟨#[69, 78, 68]⟩, ⟨#[78, 76]⟩, ⟨#[110, 117, 109, 58]⟩, ⟨#[115, 116, 114, 58]⟩, ⟨#[114, 101, 58]⟩, ⟨#[110, 97, 109, 101, 58]⟩, ⟨#[102, 117, 110, 99, 58]⟩, ⟨#[119, 111, 114, 100, 58]⟩, ⟨#[115, 105, 103, 110, 58]⟩, ⟨#[98, 117, 105, 108, 116, 105, 110, 58]⟩, ⟨#[98, 97, 110, 110, 101, 100, 58]⟩]
def kindB (k : Int) : ByteArray := kindsT.getD (min (max k 0) 10).toNat ⟨#[]⟩
def printL : List Tok → List UInt8
  | [] => []
  | t :: r => (kindB t.f0).data.toList ++ t.f1.data.toList ++ [32] ++ printL r
theorem printL_snoc (l : List Tok) (t : Tok) : printL (l ++ [t]) = printL l ++ ((kindB t.f0).data.toList ++ t.f1.data.toList ++ [32]) := by
  induction l with
  | nil => simp [printL]
  | cons a l ih => simp [printL, ih]
theorem printL_take (l : List Tok) (n : Nat) : (printL (l.take n)).length ≤ (printL l).length := by
  induction l generalizing n with
  | nil => simp
  | cons a l ih =>
    cases n with
    | zero => simp [printL]
    | succ n => have := ih n; simp [printL]; omega
theorem printL_len (l : List Tok) : l.length ≤ (printL l).length := by
  induction l with
  | nil => simp
  | cons a l ih => simp [printL]; omega
def lex_Print.f (l0 : List Tok) : Option ByteArray := if (printL l0).length ≤ 1000000 then some ⟨(printL l0).toArray⟩ else none
theorem builder_below {B b : Nat} {bs : List Value} {W W2 : World} (h : Lib.IsBuilderF 52 5 B b bs W) (hb : Below W.heap.size W W2) : Lib.IsBuilderF 52 5 B b bs W2 := by
  have lt : ∀ {k : Nat} {o : Obj}, W.heap[k]? = some o → k < W.heap.size := fun h => (Array.getElem?_eq_some_iff.1 h).1
  have at_ : ∀ p, Lib.BuilderAtF 52 5 B b p bs W → Lib.BuilderAtF 52 5 B b p bs W2 := by
    rintro p ⟨hB, v, hv, hown, hne⟩
    refine ⟨hB, v, (hb.block b (lt hv)).trans hv, ⟨hown.1, ?_⟩, hne⟩
    rcases hown.2 with hn | ⟨q, cap, cur, fz, hv, hbase, hq, rest⟩
    · exact .inl hn
    · exact .inr ⟨q, cap, cur, fz, hv, hbase, (hb.block q (lt hq)).trans hq, rest⟩
  exact h.elim (fun x => .inl (at_ _ x)) (fun x => .inr (at_ _ x))
/-- what Print has gathered -/
structure PX (w W : World) (out : List UInt8) : Prop where
  bu : Lib.IsBuilderF 52 5 w.heap.size w.heap.size (Lib.byteCells out) W
  bel : Below w.heap.size w W
section
variable {w W W1 : World} {out out2 : List UInt8}
theorem PX.below (h : PX w W out) (hb : Below W.heap.size W W1) : PX w W1 out := ⟨builder_below h.bu hb, h.bel.trans (hb.mono h.bel.size)⟩
theorem PX.drewN (h : PX w W out) (n : Nat) : PX w (W.drewN n) out := h.below (pw_below_drewN (Below.refl _ _) n)
theorem PX.drew (h : PX w W out) : PX w W.drew out := h.below (below_drew1 (Below.refl _ _))
theorem PX.alloc (h : PX w W out) (o : Obj) : PX w (W.alloc o) out := h.below (below_alloc (Below.refl _ _) o)
theorem PX.wrote {bs : List Value} (h : PX w W out) (hb : Below w.heap.size W W1) (hu : Lib.BuilderAtF 52 5 w.heap.size w.heap.size (.pointer (some ⟨w.heap.size, 0, none⟩)) bs W1) (he : bs = Lib.byteCells out2) : PX w W1 out2 := by
  subst he
  exact ⟨.inr hu, h.bel.trans hb⟩
theorem PX.new (w : World) : PX w (w.alloc (.cells #[.pointer none, .slice none 0 0] 52)) [] :=
  ⟨Lib.IsBuilderF.of (.inl ⟨by omega, _, by have := heap_alloc_new w (.cells #[.pointer none, .slice none 0 0] 52); simpa using this, World.ownsRow_nil _ _ _ _, by simp [Value.ownBlock]⟩), (Below.refl _ _).alloc (Nat.le_refl _) _⟩
end
theorem PX.name {w W : World} {out : List UInt8} (h : PX w W out) : ∃ o2 : List UInt8, Hid (o2 = out) ∧ o2.length ≤ out.length ∧ Hid (PX w W o2) := ⟨out, Lib.hid rfl, Nat.le_refl _, Lib.hid h⟩
theorem bl_len (l : List UInt8) : (Lib.byteCells l).length = l.length := by simp [Lib.byteCells]
theorem tok_kept {W W1 : World} {g b : Nat} {cs : Array Value} (hg : W.heap[g]? = some (.cells cs 29 (0, 0))) (hk : Lib.OthersKept 5 (some b) W W1) (hne : g ≠ b) : W1.heap[g]? = some (.cells cs 29 (0, 0)) :=
  hk g _ hg (fun e => hne (by injection e)) (fun c fz e => by injection e with _ e _; exact absurd e (by decide))
theorem builder_lt {B b : Nat} {bs : List Value} {W : World} (h : Lib.IsBuilderF 52 5 B b bs W) : b < W.heap.size := by
  rcases h with ⟨_, v, hb, _⟩ | ⟨_, v, hb, _⟩ <;> exact (Array.getElem?_eq_some_iff.1 hb).1
theorem strC (s : ByteArray) (out : List UInt8) : Lib.byteCells out ++ Lib.strCells s = Lib.byteCells (out ++ s.data.toList) := by simp [Lib.byteCells, Lib.strCells]
theorem kind_cases (k : Int) : (min (max k 0) 10 = 0 ∧ kindB k = ⟨#[69, 78, 68]⟩) ∨ (min (max k 0) 10 = 1 ∧ kindB k = ⟨#[78, 76]⟩) ∨ (min (max k 0) 10 = 2 ∧ kindB k = ⟨#[110, 117, 109, 58]⟩) ∨ (min (max k 0) 10 = 3 ∧ kindB k = ⟨#[115, 116, 114, 58]⟩) ∨ (min (max k 0) 10 = 4 ∧ kindB k = ⟨#[114, 101, 58]⟩) ∨ (min (max k 0) 10 = 5 ∧ kindB k = ⟨#[110, 97, 109, 101, 58]⟩) ∨ (min (max k 0) 10 = 6 ∧ kindB k = ⟨#[102, 117, 110, 99, 58]⟩) ∨ (min (max k 0) 10 = 7 ∧ kindB k = ⟨#[119, 111, 114, 100, 58]⟩) ∨ (min (max k 0) 10 = 8 ∧ kindB k = ⟨#[115, 105, 103, 110, 58]⟩) ∨ (min (max k 0) 10 = 9 ∧ kindB k = ⟨#[98, 117, 105, 108, 116, 105, 110, 58]⟩) ∨ (min (max k 0) 10 = 10 ∧ kindB k = ⟨#[98, 97, 110, 110, 101, 100, 58]⟩) := by
  have h : ∃ m : Int, min (max k 0) 10 = m ∧ 0 ≤ m ∧ m ≤ 10 := ⟨_, rfl, by omega, by omega⟩
  obtain ⟨m, hm, h0, h1⟩ := h
  unfold kindB
  rw [hm]
  have : m = 0 ∨ m = 1 ∨ m = 2 ∨ m = 3 ∨ m = 4 ∨ m = 5 ∨ m = 6 ∨ m = 7 ∨ m = 8 ∨ m = 9 ∨ m = 10 := by omega
  rcases this with rfl | rfl | rfl | rfl | rfl | rfl | rfl | rfl | rfl | rfl | rfl
  · exact .inl ⟨rfl, rfl⟩
  · exact .inr (.inl ⟨rfl, rfl⟩)
  · exact .inr (.inr (.inl ⟨rfl, rfl⟩))
  · exact .inr (.inr (.inr (.inl ⟨rfl, rfl⟩)))
  · exact .inr (.inr (.inr (.inr (.inl ⟨rfl, rfl⟩))))
  · exact .inr (.inr (.inr (.inr (.inr (.inl ⟨rfl, rfl⟩)))))
  · exact .inr (.inr (.inr (.inr (.inr (.inr (.inl ⟨rfl, rfl⟩))))))
  · exact .inr (.inr (.inr (.inr (.inr (.inr (.inr (.inl ⟨rfl, rfl⟩)))))))
  · exact .inr (.inr (.inr (.inr (.inr (.inr (.inr (.inr (.inl ⟨rfl, rfl⟩))))))))
  · exact .inr (.inr (.inr (.inr (.inr (.inr (.inr (.inr (.inr (.inl ⟨rfl, rfl⟩)))))))))
  · exact .inr (.inr (.inr (.inr (.inr (.inr (.inr (.inr (.inr (.inr (⟨rfl, rfl⟩))))))))))
set_option maxHeartbeats 16000000 in
set_option maxRecDepth 100000 in
theorem lex_Print.calls (A0 : Option Addr) (c0 : Nat) (l0 : List Tok) (r : ByteArray) (w : World) (hr0 : Kd.C k29 w A0 l0.length l0) (hc0 : l0.length ≤ c0) (hT : TB w) (h : lex_Print.f l0 = some r) :
    Calls Tryd.prog 15 #[.slice A0 l0.length c0] w fun e w' => e = .returned (.string r) ∧ Below w.heap.size w w' := by
  unfold lex_Print.f at h
  split at h
  rotate_left
  · cases h
  rename_i hsz
  obtain rfl := (Option.some.inj h).symm
  clear h
  have hu := Tryd.underlying29
  have hll := printL_len l0
  have HC := Lib.hid hr0
  have HP0 := Lib.hid (PX.new w)
  clear hr0
  go_enter Tryd.func15, Tryd.ntmps15
  go_wp2
  go_loopg [8] (l0.length + 1) (fun gk v8 wr => ∃ i : Int, v8 = .int .i64 i ∧ 0 ≤ i ∧ i ≤ l0.length ∧ (l0.length : Int) - i < gk ∧ Hid (PX w wr (printL (l0.take i.toNat))))
  case atStart => exact ⟨0, rfl, by omega, by omega, by omega, by simpa [printL] using HP0⟩
  case round =>
    clear HP0
    obtain ⟨i, rfl, i0, i1, i2, HP⟩ := hrel
    by_cases hlt : i < (l0.length : Int)
    · have hdc : decide (i < (l0.length : Int)) = true := decide_eq_true hlt
      have hln : i.toNat < l0.length := by omega
      obtain ⟨ad, eA, x0, x1, x2⟩ := at_T29 (Kd.C_below HC.out HP.out.bel) i i0 hlt
      subst eA
      have hrd : rd_T29 l0 i = l0[i.toNat] := by simp [rd_T29, List.getD, hln]
      rw [hrd] at x0 x1 x2
      have hsn : printL (l0.take (i + 1).toNat) = printL (l0.take i.toNat) ++ ((kindB l0[i.toNat].f0).data.toList ++ l0[i.toNat].f1.data.toList ++ [32]) := by
        rw [show (i + 1).toNat = i.toNat + 1 by omega, List.take_succ_eq_append_getElem hln, printL_snoc]
      have hle := printL_take l0 (i + 1).toNat
      rw [hsn, List.length_append, List.length_append, List.length_append] at hle
      have HSN := Lib.hid hsn
      clear hsn hrd
      generalize l0[i.toNat] = t at x0 x1 x2 hle HSN
      obtain ⟨t0, t1, t2⟩ := t
      dsimp only at x0 x1 x2 hle HSN
      obtain ⟨out, ho⟩ : ∃ out, printL (l0.take i.toNat) = out := ⟨_, rfl⟩
      rw [ho] at HP hle HSN
      clear ho
      have hw1 : IntKind.i64.wrap (i + 1) = i + 1 := IntWalk.i64_in _ (by omega)
      have hp1 : (0 ≤ i) = True := eq_true i0
      have hp2 : (i < (l0.length : Int)) = True := eq_true hlt
      have ht1 : t1.data.toList.length = t1.size := by simp
      have hb1 : out.length ≤ 1000000 := by omega
      have hb2 : t1.size ≤ 1000000 := by omega
      clear ht1
      rcases kind_cases t0 with ⟨hm, hk⟩ | ⟨hm, hk⟩ | ⟨hm, hk⟩ | ⟨hm, hk⟩ | ⟨hm, hk⟩ | ⟨hm, hk⟩ | ⟨hm, hk⟩ | ⟨hm, hk⟩ | ⟨hm, hk⟩ | ⟨hm, hk⟩ | ⟨hm, hk⟩
      all_goals
        rw [hk] at hle HSN
        clear hk
        have HT0 := Lib.hid (show (wr.alloc (.cells #[.int .i64 t0, .string t1, .int .i64 t2] 29)).heap[wr.heap.size]? = some (.cells #[.int .i64 t0, .string t1, .int .i64 t2] 29 (0, 0)) by have := heap_alloc_new wr (.cells #[.int .i64 t0, .string t1, .int .i64 t2] 29); simpa using this)
        have hgw : wr.heap.size ≠ w.heap.size := by have := builder_lt HP.out.bu; omega
        simp only [List.length_append, List.length_cons, List.length_nil] at hle
        go_wp2_with (first
          | (go_at_call 20; (with_reducible refine (builder_writeString w.heap.size w.heap.size (Lib.byteCells out) _ _ ?b1 ?b2 ?b3).mono ?_); (case b1 => exact PX.bu (by repeat (first | exact HP.out | apply PX.alloc | apply PX.drewN | apply PX.drew))); (case b2 => rw [bl_len]; simp only [ByteArray.size, List.size_toArray, List.length_cons, List.length_nil]; omega); (case b3 => exact Below.size (PX.bel (by repeat (first | exact HP.out | apply PX.alloc | apply PX.drewN | apply PX.drew)))); rintro e w2 ⟨rfl, hu2, hB2, hk2⟩; obtain ⟨o2, HO2, l2, HP2⟩ := PX.name (PX.wrote (by repeat (first | exact HP.out | apply PX.alloc | apply PX.drewN | apply PX.drew)) hB2 hu2 (strC _ out)); replace l2 : o2.length ≤ out.length + 20 := (by simp at l2; omega); have hb2 := tok_kept (by repeat (first | exact HT0.out | refine blk_alloc ?_ _ | refine blk_drewN ?_ _ | refine blk_drew ?_)) hk2 hgw; have z1 : w2.cell? ⟨wr.heap.size, 1, none⟩ = some (.string t1) := (blk_cell hb2 1).trans rfl; clear hu2 hB2 hk2 hb2 HT0)
          | (go_at_call 20; (with_reducible refine (builder_writeString w.heap.size w.heap.size (Lib.byteCells o2) t1 _ ?b1 ?b2 ?b3).mono ?_); (case b1 => exact PX.bu (by repeat (first | exact HP2.out | apply PX.alloc | apply PX.drewN | apply PX.drew))); (case b2 => rw [bl_len]; omega); (case b3 => exact Below.size (PX.bel (by repeat (first | exact HP2.out | apply PX.alloc | apply PX.drewN | apply PX.drew)))); rintro e w3 ⟨rfl, hu3, hB3, hk3⟩; obtain ⟨o3, HO3, l3, HP3⟩ := PX.name (PX.wrote (by repeat (first | exact HP2.out | apply PX.alloc | apply PX.drewN | apply PX.drew)) hB3 hu3 (strC _ o2)); replace l3 : o3.length ≤ o2.length + t1.size := (by simp at l3; omega); clear hu3 hB3 hk3)
          | (go_at_call 21; (with_reducible refine (builder_writeByte w.heap.size w.heap.size (Lib.byteCells o3) 32 _ ?b1 ?b2 ?b3).mono ?_); (case b1 => exact PX.bu (by repeat (first | exact HP3.out | apply PX.alloc | apply PX.drewN | apply PX.drew))); (case b2 => rw [bl_len]; omega); (case b3 => exact Below.size (PX.bel (by repeat (first | exact HP3.out | apply PX.alloc | apply PX.drewN | apply PX.drew)))); rintro e w4 ⟨rfl, hu4, hB4, hk4⟩; have HP4 := Lib.hid (PX.wrote (by repeat (first | exact HP3.out | apply PX.alloc | apply PX.drewN | apply PX.drew)) hB4 hu4 (byteCells_snoc o3 32)); clear hu4 hB4 hk4))
        go_roundg (gk - 1)
        case measure => omega
        case rel => exact ⟨i + 1, by first | rfl | go_num, by omega, by omega, by omega, Lib.hid (by rw [HSN.out]; have hp := HP4.out; rw [HO3.out, HO2.out] at hp; simp only [List.append_assoc] at hp ⊢; repeat (first | exact hp | apply PX.drewN | apply PX.drew))⟩
    · have hdc : decide (i < (l0.length : Int)) = false := decide_eq_false hlt
      have htk : l0.take i.toNat = l0 := List.take_of_length_le (by omega)
      rw [htk] at HP
      go_wp2_with (go_at_call 22; (with_reducible refine (builder_string w.heap.size w.heap.size (printL l0) _ (PX.bu (by repeat (first | exact HP.out | apply PX.drewN | apply PX.drew))) (Below.size (PX.bel (by repeat (first | exact HP.out | apply PX.drewN | apply PX.drew))))).mono ?_); rintro e w2 ⟨rfl, hB2⟩; have HB2 := Lib.hid ((PX.bel (by repeat (first | exact HP.out | apply PX.drewN | apply PX.drew))).trans hB2); clear hB2)
      go_ret
      exact ⟨rfl, by repeat (first | exact HB2.out | apply pw_below_drewN | apply below_drew1)⟩
end Go.Proofs.YtpnkcihiliagcaaDoor.Pr
