/- ast.Print, walked by hand: a tree as a text. -/
import Derived.Test.YtgkojnpbgkglgaaDoorPuAsW
import Derived.Lib.OthersKept
set_option linter.unusedVariables false
set_option linter.unusedSimpArgs false
namespace Go.Proofs.YtgkojnpbgkglgaaDoor.Pr
open Go Go.RowKit Go.Proofs.YtgkojnpbgkglgaaDoorW.PrintWords Go.Proofs.YtgkojnpbgkglgaaDoorW.PrintLast Go.Proofs.YtgkojnpbgkglgaaDoorW.PrintMore

def bL (s : ByteArray) : List UInt8 := s.data.toList
def txA (t : ByteArray) : List UInt8 := if t.size = 0 then [] else 32 :: (Lib.decDigits t.size ++ 58 :: bL t)
mutual
def prA : ANode → List UInt8
  | ⟨o, t, _, ks⟩ => 40 :: (bL o ++ (txA t ++ (prAs ks ++ [41])))
def prAs : List ANode → List UInt8
  | [] => []
  | k :: r => 32 :: (prA k ++ prAs r)
end
theorem prA_eq (n : ANode) : prA n = 40 :: (bL n.f0 ++ (txA n.f1 ++ (prAs n.f3 ++ [41]))) := by cases n; rw [prA]
theorem prAs_app (a b : List ANode) : prAs (a ++ b) = prAs a ++ prAs b := by
  induction a with
  | nil => simp [prAs]
  | cons k r ih => simp [prAs, ih]
theorem prAs_snoc {ks : List ANode} (i : Nat) (hi : i < ks.length) : prAs (ks.take (i + 1)) = prAs (ks.take i) ++ 32 :: prA ks[i] := by
  rw [List.take_succ_eq_append_getElem hi, prAs_app]
  simp [prAs]
theorem prAs_le {ks : List ANode} (i : Nat) (hi : i < ks.length) : (prAs (ks.take i)).length + 1 + (prA ks[i]).length ≤ (prAs ks).length := by
  have h : prAs ks = prAs (ks.take (i + 1)) ++ prAs (ks.drop (i + 1)) := by rw [← prAs_app, List.take_append_drop]
  rw [h, prAs_snoc i hi]
  simp only [List.length_append, List.length_cons]
  omega
theorem prAs_len (l : List ANode) : l.length ≤ (prAs l).length := by
  induction l with
  | nil => simp [prAs]
  | cons k r ih => simp [prAs]; omega
def ast_Print.f (o t : ByteArray) (a : Int) (ks : List ANode) : Option ByteArray := if (prA ⟨o, t, a, ks⟩).length ≤ 1000000000000 then some ⟨(prA ⟨o, t, a, ks⟩).toArray⟩ else none

/-- what has been gathered; what lay below w0's heap lies -/
structure SP (w0 : World) (gb : Nat) (l : List UInt8) (W : World) : Prop where
  u : Lib.IsBuilderF 61 5 w0.heap.size gb (Lib.byteCells l) W
  b : Below w0.heap.size w0 W
theorem SP.move {w0 W W' : World} {gb : Nat} {l : List UInt8} (h : SP w0 gb l W) (hb : Below w0.heap.size w0 W') (hk : ∀ k, k < W.heap.size → W'.heap[k]? = W.heap[k]?) : SP w0 gb l W' := by
  have lt : ∀ {k : Nat} {o : Obj}, W.heap[k]? = some o → k < W.heap.size := fun h => (Array.getElem?_eq_some_iff.1 h).1
  have at_ : ∀ p, Lib.BuilderAtF 61 5 w0.heap.size gb p (Lib.byteCells l) W → Lib.BuilderAtF 61 5 w0.heap.size gb p (Lib.byteCells l) W' := by
    rintro p ⟨hB, v, hb, hown, hne⟩
    refine ⟨hB, v, (hk gb (lt hb)).trans hb, ⟨hown.1, ?_⟩, hne⟩
    rcases hown.2 with hn | ⟨q, cap, cur, fz, hv, hbase, hq, rest⟩
    · exact .inl hn
    · exact .inr ⟨q, cap, cur, fz, hv, hbase, (hk q (lt hq)).trans hq, rest⟩
  exact ⟨h.u.elim (fun x => .inl (at_ _ x)) (fun x => .inr (at_ _ x)), hb⟩
theorem SP.below {w0 W W' : World} {gb : Nat} {l : List UInt8} (h : SP w0 gb l W) (hb : Below W.heap.size W W') : SP w0 gb l W' := h.move (h.b.trans (hb.mono h.b.size)) hb.block
theorem SP.alloc {w0 W : World} {gb : Nat} {l : List UInt8} (h : SP w0 gb l W) (o : Obj) : SP w0 gb l (W.alloc o) := h.below ((Below.refl _ _).alloc (Nat.le_refl _) _)
theorem SP.drewN {w0 W : World} {gb : Nat} {l : List UInt8} (h : SP w0 gb l W) (n : Nat) : SP w0 gb l (W.drewN n) := h.below ⟨rfl, rfl, rfl, Nat.le_refl _, fun _ _ => rfl⟩
theorem SP.drew {w0 W : World} {gb : Nat} {l : List UInt8} (h : SP w0 gb l W) : SP w0 gb l W.drew := h.below ⟨rfl, rfl, rfl, Nat.le_refl _, fun _ _ => rfl⟩
theorem SP.at {w0 W : World} {gb : Nat} {l : List UInt8} (h : SP w0 gb l W) : ∃ cs, W.heap[gb]? = some (.cells cs 61 (0, 0)) := by
  rcases h.u with ⟨_, v, hb, _⟩ | ⟨_, v, hb, _⟩ <;> exact ⟨_, hb⟩
/-- a node's box lies on where the builder alone has turned -/
theorem SP.box {w0 W W' : World} {gb g : Nat} {l : List UInt8} {cs : Array Value} (h : SP w0 gb l W) (hk : Lib.OthersKept 5 (some gb) W W') (hb : W.heap[g]? = some (.cells cs 26 (0, 0))) : W'.heap[g]? = some (.cells cs 26 (0, 0)) := by
  refine hk g _ hb (fun e => ?_) (fun c fz e => ?_)
  · injection e with e
    subst e
    obtain ⟨cs', h'⟩ := h.at
    have := hb.symm.trans h'
    injection this with this
    injection this with _ e _
    exact absurd e (by decide)
  · injection e with _ e _
    exact absurd e (by decide)
def b8 (c : Int) : UInt8 := UInt8.ofNat c.toNat
theorem b8_40 : b8 40 = 40 := rfl
theorem b8_41 : b8 41 = 41 := rfl
theorem b8_32 : b8 32 = 32 := rfl
theorem b8_58 : b8 58 = 58 := rfl
theorem sp_byte {w0 W : World} {gb : Nat} {l : List UInt8} (c : Int) (h0 : 0 ≤ c) (h1 : c < 256) (h : SP w0 gb l W) (hl : l.length + 1 ≤ 140737488355328) :
    Calls Tryd.prog 31 #[.pointer (some ⟨gb, 0, none⟩), .int .u8 c] W fun e W' => e = .returned .nilIface ∧ SP w0 gb (l ++ [b8 c]) W' ∧ Lib.OthersKept 5 (some gb) W W' :=
  (builder_writeByte _ _ _ c W h.u (by simpa [Lib.byteCells] using hl) h.b.size).mono fun e W' ⟨he, hu, hb, ho⟩ => ⟨he, ⟨.inr (by
    have : Lib.byteCells (l ++ [b8 c]) = Lib.byteCells l ++ [.int .u8 c] := by
      have hc : (((UInt8.ofNat c.toNat).toNat : Nat) : Int) = c := by
        rw [show (UInt8.ofNat c.toNat).toNat = c.toNat % 256 from UInt8.toNat_ofNat']; omega
      simp only [b8, Lib.byteCells, List.map_append, List.map_cons, List.map_nil, hc]
    rw [this]; exact hu), h.b.trans hb⟩, ho⟩
theorem sp_str {w0 W : World} {gb : Nat} {l : List UInt8} (s : ByteArray) (h : SP w0 gb l W) (hl : l.length + s.size ≤ 140737488355328) :
    Calls Tryd.prog 32 #[.pointer (some ⟨gb, 0, none⟩), .string s] W fun e W' => e = .returned (.tuple #[.int .i64 s.size, .nilIface]) ∧ SP w0 gb (l ++ bL s) W' ∧ Lib.OthersKept 5 (some gb) W W' :=
  (builder_writeString _ _ _ s W h.u (by simpa [Lib.byteCells] using hl) h.b.size).mono fun e W' ⟨he, hu, hb, ho⟩ => ⟨he, ⟨.inr (by
    have : Lib.byteCells (l ++ bL s) = Lib.byteCells l ++ Lib.strCells s := by simp [Lib.byteCells, Lib.strCells, bL]
    rw [this]; exact hu), h.b.trans hb⟩, ho⟩

set_option maxHeartbeats 8000000 in
set_option maxRecDepth 100000 in
theorem spell_walk (w0 : World) (hT : TB w0) (gb : Nat) (sz : Nat) : ∀ (n : ANode) (A : Option Addr) (c : Nat) (l : List UInt8) (W : World), (allT 0 n).length ≤ sz → n.f3.length ≤ c → Kd.C k26 w0 A n.f3.length n.f3 → l.length + (prA n).length ≤ 100000000000000 → SP w0 gb l W →
    Calls Tryd.prog 25 #[.pointer (some ⟨gb, 0, none⟩), .agg #[.string n.f0, .string n.f1, .int .i64 n.f2, .slice A n.f3.length c]] W fun e W' => e = .returned (.tuple #[]) ∧ SP w0 gb (l ++ prA n) W' := by
  induction sz with
  | zero => intro n A c l W h; have := allT_pos 0 n; omega
  | succ sz ih =>
    rintro ⟨o, t, a, ks⟩ A c l W hsz hc hC hl HS
    dsimp only at hc hC ⊢
    have hu := Tryd.underlying26
    have hlen : (allT 0 ⟨o, t, a, ks⟩).length = (allKs 0 ks).length + 1 := by rw [allT_eq, List.length_cons]; simp only; rw [allKs_lend (0 + 1) 0]
    rw [hlen] at hsz
    have hbo : (bL o).length = o.size := by rw [bL, Array.length_toList]; rfl
    have hbt : (bL t).length = t.size := by rw [bL, Array.length_toList]; rfl
    have hprl : (prA ⟨o, t, a, ks⟩).length = 2 + o.size + (txA t).length + (prAs ks).length := by rw [prA_eq]; simp only [List.length_cons, List.length_append, List.length_nil, hbo]; omega
    have htx : t.size ≤ (txA t).length := by
      unfold txA
      split
      · omega
      · simp only [List.length_cons, List.length_append, hbt]; omega
    rw [hprl] at hl
    have hkl := prAs_len ks
    have HS := Lib.hid (HS.alloc (.cells #[.string o, .string t, .int .i64 a, .slice A ks.length c] 26))
    have HBX := Lib.hid (heap_alloc_new W (.cells #[.string o, .string t, .int .i64 a, .slice A ks.length c] 26))
    have HC := Lib.hid hC
    clear hC
    have hdl : (⟨(Lib.decDigits t.size).toArray⟩ : ByteArray).size = (Lib.decDigits t.size).length := by show ((Lib.decDigits t.size).toArray).size = _; simp
    have hbd : bL ⟨(Lib.decDigits t.size).toArray⟩ = Lib.decDigits t.size := by simp [bL]
    obtain ⟨hx, hhx⟩ : ∃ hx, hx = l ++ 40 :: (bL o ++ txA t) := ⟨_, rfl⟩
    have hlx : hx.length = l.length + 1 + o.size + (txA t).length := by rw [hhx]; simp only [List.length_append, List.length_cons, hbo]; omega
    by_cases ht : t.size = 0
    · have hne : t.toList.isEmpty = true := by rw [ByteArray.toList_eq, show t.data = #[] from Array.eq_empty_of_size_eq_zero ht]; rfl
      have hne2 : (t.toList == []) = true := by rw [ByteArray.toList_eq, show t.data = #[] from Array.eq_empty_of_size_eq_zero ht]; rfl
      go_enter Tryd.func25, Tryd.ntmps25
      go_wp2_with (first
        | (go_at_call 31; (with_reducible refine (sp_byte _ (by decide) (by decide) HS.out (by (try simp only [List.length_append, List.length_cons, List.length_nil, hbo, hbt, hdl, hbd]); omega)).mono ?_); rintro e w2 ⟨rfl, hS, hk⟩; have HBX2 := Lib.hid (HS.out.box hk HBX.out); clear HS HBX; have HS := Lib.hid hS; have HBX := HBX2; clear HBX2 hS hk; (try clear c0 c1 c3); have c0 : w2.cell? ⟨W.heap.size, 0, none⟩ = some (.string o) := (blk_cell HBX.out 0).trans rfl; have c1 : w2.cell? ⟨W.heap.size, 1, none⟩ = some (.string t) := (blk_cell HBX.out 1).trans rfl; have c3 : w2.cell? ⟨W.heap.size, 3, none⟩ = some (.slice A ks.length c) := (blk_cell HBX.out 3).trans rfl)
        | (go_at_call 32; (with_reducible refine (sp_str _ HS.out (by (try simp only [List.length_append, List.length_cons, List.length_nil, hbo, hbt, hdl, hbd]); omega)).mono ?_); rintro e w2 ⟨rfl, hS, hk⟩; have HBX2 := Lib.hid (HS.out.box hk HBX.out); clear HS HBX; have HS := Lib.hid hS; have HBX := HBX2; clear HBX2 hS hk; (try clear c0 c1 c3); have c0 : w2.cell? ⟨W.heap.size, 0, none⟩ = some (.string o) := (blk_cell HBX.out 0).trans rfl; have c1 : w2.cell? ⟨W.heap.size, 1, none⟩ = some (.string t) := (blk_cell HBX.out 1).trans rfl; have c3 : w2.cell? ⟨W.heap.size, 3, none⟩ = some (.slice A ks.length c) := (blk_cell HBX.out 3).trans rfl)
        | (go_at_call 33; (with_reducible refine (strconv_Itoa_any t.size (by omega) _ (hT.below HS.out.b)).mono ?_); rintro e w2 ⟨rfl, hb2⟩; have HBX2 := Lib.hid ((hb2.block _ (Array.getElem?_eq_some_iff.1 HBX.out).1).trans HBX.out); have HS2 := Lib.hid (HS.out.below hb2); clear HS HBX hb2; have HS := HS2; have HBX := HBX2; clear HS2 HBX2; (try clear c0 c1 c3); have c0 : w2.cell? ⟨W.heap.size, 0, none⟩ = some (.string o) := (blk_cell HBX.out 0).trans rfl; have c1 : w2.cell? ⟨W.heap.size, 1, none⟩ = some (.string t) := (blk_cell HBX.out 1).trans rfl; have c3 : w2.cell? ⟨W.heap.size, 3, none⟩ = some (.slice A ks.length c) := (blk_cell HBX.out 3).trans rfl))
      have HX : Hid (SP w0 gb hx w2) := by
        have h := HS.out
        rw [show l ++ [b8 40] ++ bL o = hx by rw [hhx, b8_40]; unfold txA; rw [if_pos ht]; simp] at h
        exact Lib.hid h
      clear HS
      clear HBX c0 c1 c3
      go_loopg [32] (ks.length + 1) (fun gk v wr => ∃ i : Nat, v = .int .i64 (i : Int) ∧ i ≤ ks.length ∧ ks.length < gk + i ∧ Hid (SP w0 gb (hx ++ prAs (ks.take i)) wr))
      case atStart => exact ⟨0, rfl, by omega, by omega, Lib.hid (by simpa [prAs] using HX.out)⟩
      case round =>
        clear HX
        obtain ⟨i, rfl, hi, hgk, HS⟩ := hrel
        by_cases hlt : i < ks.length
        · have hdc : decide ((i : Int) < (ks.length : Int)) = true := decide_eq_true (by omega)
          have hple := prAs_le i hlt
          obtain ⟨ad, A3, c3, eA, f0, f1, f2, f3, l3, g3⟩ := kid_facts HC.out i hlt
          have b0 := World.block_lt_of_cell? _ _ f0
          have f0 := (HS.out.b.cell (p := ad.add (i * 4)) (by omega)).trans f0
          have f1 := (HS.out.b.cell (p := ⟨(ad.add (i * 4)).block, (ad.add (i * 4)).off + 1, none⟩) (by simp only; omega)).trans f1
          have f2 := (HS.out.b.cell (p := ⟨(ad.add (i * 4)).block, (ad.add (i * 4)).off + 2, none⟩) (by simp only; omega)).trans f2
          have f3 := (HS.out.b.cell (p := ⟨(ad.add (i * 4)).block, (ad.add (i * 4)).off + 3, none⟩) (by simp only; omega)).trans f3
          have HS1 := Lib.hid (HS.out.alloc (.cells #[.string ks[i].f0, .string ks[i].f1, .int .i64 ks[i].f2, .slice A3 ks[i].f3.length c3] 26))
          have HBX := Lib.hid (heap_alloc_new wr (.cells #[.string ks[i].f0, .string ks[i].f1, .int .i64 ks[i].f2, .slice A3 ks[i].f3.length c3] 26))
          have hkid := kid_len i hlt 0
          have hsnoc := prAs_snoc i hlt
          have IH := Lib.hid (fun W' h => ih ks[i] A3 c3 (hx ++ prAs (ks.take i) ++ [b8 32]) W' (by omega) l3 g3 (by simp only [List.length_append, List.length_cons, List.length_nil]; omega) h)
          subst eA
          clear HS g3
          go_wp2_with (first
            | (go_at_call 31; (with_reducible refine (sp_byte _ (by decide) (by decide) HS1.out (by simp only [List.length_append]; omega)).mono ?_); rintro e w3 ⟨rfl, hS, hk⟩; have HBX2 := Lib.hid (HS1.out.box hk HBX.out); clear HS1; have HS1 := Lib.hid hS; clear hS hk; have d0 : w3.cell? ⟨wr.heap.size, 0, none⟩ = some (.string ks[i].f0) := (blk_cell HBX2.out 0).trans rfl; have d1 : w3.cell? ⟨wr.heap.size, 1, none⟩ = some (.string ks[i].f1) := (blk_cell HBX2.out 1).trans rfl; have d2 : w3.cell? ⟨wr.heap.size, 2, none⟩ = some (.int .i64 ks[i].f2) := (blk_cell HBX2.out 2).trans rfl; have d3 : w3.cell? ⟨wr.heap.size, 3, none⟩ = some (.slice A3 ks[i].f3.length c3) := (blk_cell HBX2.out 3).trans rfl)
            | (go_at_call 25; (with_reducible refine (IH.out _ HS1.out).mono ?_); rintro e w4 ⟨rfl, hS⟩; have HS4 := Lib.hid hS; clear hS))
          go_roundg (gk - 1)
          case measure => omega
          case rel => exact ⟨i + 1, by (simp <;> (unfold wrap64; omega)), by omega, by omega, Lib.hid (by have h := HS4.out; rw [b8_32] at h; rw [hsnoc]; simpa [List.append_assoc] using h)⟩
        · obtain rfl : i = ks.length := by omega
          have hdc : decide ((ks.length : Int) < (ks.length : Int)) = false := decide_eq_false (by omega)
          go_wp2_with (go_at_call 31; (with_reducible refine (sp_byte _ (by decide) (by decide) HS.out (by rw [List.take_length]; simp only [List.length_append]; omega)).mono ?_); rintro e w3 ⟨rfl, hS, hk⟩)
          go_end0
          refine ⟨rfl, ?_⟩
          rw [List.take_length, b8_41, hhx] at hS
          rw [prA_eq]
          simpa [List.append_assoc] using hS
    · have hne : t.toList.isEmpty = false := by
        cases hl : t.toList with
        | nil => exfalso; have : t.toList.length = t.size := by simp [ByteArray.toList_eq]
                 rw [hl] at this; simp at this; omega
        | cons a l => rfl
      have hne2 : (t.toList == []) = false := by
        cases hl : t.toList with
        | nil => rw [hl] at hne; cases hne
        | cons a l => rfl
      have htl : (txA t).length = 1 + (Lib.decDigits t.size).length + 1 + t.size := by unfold txA; rw [if_neg ht]; simp only [List.length_cons, List.length_append, hbt]; omega
      go_enter Tryd.func25, Tryd.ntmps25
      go_wp2_with (first
        | (go_at_call 31; (with_reducible refine (sp_byte _ (by decide) (by decide) HS.out (by (try simp only [List.length_append, List.length_cons, List.length_nil, hbo, hbt, hdl, hbd]); omega)).mono ?_); rintro e w2 ⟨rfl, hS, hk⟩; have HBX2 := Lib.hid (HS.out.box hk HBX.out); clear HS HBX; have HS := Lib.hid hS; have HBX := HBX2; clear HBX2 hS hk; (try clear c0 c1 c3); have c0 : w2.cell? ⟨W.heap.size, 0, none⟩ = some (.string o) := (blk_cell HBX.out 0).trans rfl; have c1 : w2.cell? ⟨W.heap.size, 1, none⟩ = some (.string t) := (blk_cell HBX.out 1).trans rfl; have c3 : w2.cell? ⟨W.heap.size, 3, none⟩ = some (.slice A ks.length c) := (blk_cell HBX.out 3).trans rfl)
        | (go_at_call 32; (with_reducible refine (sp_str _ HS.out (by (try simp only [List.length_append, List.length_cons, List.length_nil, hbo, hbt, hdl, hbd]); omega)).mono ?_); rintro e w2 ⟨rfl, hS, hk⟩; have HBX2 := Lib.hid (HS.out.box hk HBX.out); clear HS HBX; have HS := Lib.hid hS; have HBX := HBX2; clear HBX2 hS hk; (try clear c0 c1 c3); have c0 : w2.cell? ⟨W.heap.size, 0, none⟩ = some (.string o) := (blk_cell HBX.out 0).trans rfl; have c1 : w2.cell? ⟨W.heap.size, 1, none⟩ = some (.string t) := (blk_cell HBX.out 1).trans rfl; have c3 : w2.cell? ⟨W.heap.size, 3, none⟩ = some (.slice A ks.length c) := (blk_cell HBX.out 3).trans rfl)
        | (go_at_call 33; (with_reducible refine (strconv_Itoa_any t.size (by omega) _ (hT.below HS.out.b)).mono ?_); rintro e w2 ⟨rfl, hb2⟩; have HBX2 := Lib.hid ((hb2.block _ (Array.getElem?_eq_some_iff.1 HBX.out).1).trans HBX.out); have HS2 := Lib.hid (HS.out.below hb2); clear HS HBX hb2; have HS := HS2; have HBX := HBX2; clear HS2 HBX2; (try clear c0 c1 c3); have c0 : w2.cell? ⟨W.heap.size, 0, none⟩ = some (.string o) := (blk_cell HBX.out 0).trans rfl; have c1 : w2.cell? ⟨W.heap.size, 1, none⟩ = some (.string t) := (blk_cell HBX.out 1).trans rfl; have c3 : w2.cell? ⟨W.heap.size, 3, none⟩ = some (.slice A ks.length c) := (blk_cell HBX.out 3).trans rfl))
      have HX : Hid (SP w0 gb hx w2) := by
        have h := HS.out
        rw [hbd, b8_40, b8_32, b8_58] at h
        rw [show l ++ [40] ++ bL o ++ [32] ++ Lib.decDigits t.size ++ [58] ++ bL t = hx by rw [hhx]; unfold txA; rw [if_neg ht]; simp] at h
        exact Lib.hid h
      clear HS
      clear HBX c0 c1 c3
      go_loopg [32] (ks.length + 1) (fun gk v wr => ∃ i : Nat, v = .int .i64 (i : Int) ∧ i ≤ ks.length ∧ ks.length < gk + i ∧ Hid (SP w0 gb (hx ++ prAs (ks.take i)) wr))
      case atStart => exact ⟨0, rfl, by omega, by omega, Lib.hid (by simpa [prAs] using HX.out)⟩
      case round =>
        clear HX
        obtain ⟨i, rfl, hi, hgk, HS⟩ := hrel
        by_cases hlt : i < ks.length
        · have hdc : decide ((i : Int) < (ks.length : Int)) = true := decide_eq_true (by omega)
          have hple := prAs_le i hlt
          obtain ⟨ad, A3, c3, eA, f0, f1, f2, f3, l3, g3⟩ := kid_facts HC.out i hlt
          have b0 := World.block_lt_of_cell? _ _ f0
          have f0 := (HS.out.b.cell (p := ad.add (i * 4)) (by omega)).trans f0
          have f1 := (HS.out.b.cell (p := ⟨(ad.add (i * 4)).block, (ad.add (i * 4)).off + 1, none⟩) (by simp only; omega)).trans f1
          have f2 := (HS.out.b.cell (p := ⟨(ad.add (i * 4)).block, (ad.add (i * 4)).off + 2, none⟩) (by simp only; omega)).trans f2
          have f3 := (HS.out.b.cell (p := ⟨(ad.add (i * 4)).block, (ad.add (i * 4)).off + 3, none⟩) (by simp only; omega)).trans f3
          have HS1 := Lib.hid (HS.out.alloc (.cells #[.string ks[i].f0, .string ks[i].f1, .int .i64 ks[i].f2, .slice A3 ks[i].f3.length c3] 26))
          have HBX := Lib.hid (heap_alloc_new wr (.cells #[.string ks[i].f0, .string ks[i].f1, .int .i64 ks[i].f2, .slice A3 ks[i].f3.length c3] 26))
          have hkid := kid_len i hlt 0
          have hsnoc := prAs_snoc i hlt
          have IH := Lib.hid (fun W' h => ih ks[i] A3 c3 (hx ++ prAs (ks.take i) ++ [b8 32]) W' (by omega) l3 g3 (by simp only [List.length_append, List.length_cons, List.length_nil]; omega) h)
          subst eA
          clear HS g3
          go_wp2_with (first
            | (go_at_call 31; (with_reducible refine (sp_byte _ (by decide) (by decide) HS1.out (by simp only [List.length_append]; omega)).mono ?_); rintro e w3 ⟨rfl, hS, hk⟩; have HBX2 := Lib.hid (HS1.out.box hk HBX.out); clear HS1; have HS1 := Lib.hid hS; clear hS hk; have d0 : w3.cell? ⟨wr.heap.size, 0, none⟩ = some (.string ks[i].f0) := (blk_cell HBX2.out 0).trans rfl; have d1 : w3.cell? ⟨wr.heap.size, 1, none⟩ = some (.string ks[i].f1) := (blk_cell HBX2.out 1).trans rfl; have d2 : w3.cell? ⟨wr.heap.size, 2, none⟩ = some (.int .i64 ks[i].f2) := (blk_cell HBX2.out 2).trans rfl; have d3 : w3.cell? ⟨wr.heap.size, 3, none⟩ = some (.slice A3 ks[i].f3.length c3) := (blk_cell HBX2.out 3).trans rfl)
            | (go_at_call 25; (with_reducible refine (IH.out _ HS1.out).mono ?_); rintro e w4 ⟨rfl, hS⟩; have HS4 := Lib.hid hS; clear hS))
          go_roundg (gk - 1)
          case measure => omega
          case rel => exact ⟨i + 1, by (simp <;> (unfold wrap64; omega)), by omega, by omega, Lib.hid (by have h := HS4.out; rw [b8_32] at h; rw [hsnoc]; simpa [List.append_assoc] using h)⟩
        · obtain rfl : i = ks.length := by omega
          have hdc : decide ((ks.length : Int) < (ks.length : Int)) = false := decide_eq_false (by omega)
          go_wp2_with (go_at_call 31; (with_reducible refine (sp_byte _ (by decide) (by decide) HS.out (by rw [List.take_length]; simp only [List.length_append]; omega)).mono ?_); rintro e w3 ⟨rfl, hS, hk⟩)
          go_end0
          refine ⟨rfl, ?_⟩
          rw [List.take_length, b8_41, hhx] at hS
          rw [prA_eq]
          simpa [List.append_assoc] using hS
set_option maxHeartbeats 4000000 in
set_option maxRecDepth 100000 in
theorem ast_Print.calls (a0_0 a0_1 : ByteArray) (a0_2 : Int) (A0_3 : Option Addr) (c0_3 : Nat) (l0_3 : List ANode) (r : ByteArray) (w : World) (hr0_3 : Kd.C k26 w A0_3 l0_3.length l0_3) (hc0_3 : l0_3.length ≤ c0_3) (hT : TB w) (h : ast_Print.f a0_0 a0_1 a0_2 l0_3 = some r) :
    Calls Tryd.prog 14 #[.agg #[.string a0_0, .string a0_1, .int .i64 a0_2, .slice A0_3 l0_3.length c0_3]] w fun e w' => e = .returned (.string r) ∧ Below w.heap.size w w' := by
  unfold ast_Print.f at h
  split at h
  case isFalse => cases h
  rename_i hsz
  have hr := Option.some.inj h
  clear h
  have hub := Tryd.underlying61
  have HS0 : Hid (SP w (w.heap.size + 1) [] ((w.alloc (.cells #[.string a0_0, .string a0_1, .int .i64 a0_2, .slice A0_3 l0_3.length c0_3] 26)).alloc (.cells #[.pointer none, .slice none 0 0] 61))) :=
    Lib.hid ⟨Lib.IsBuilderF.of (.inl ⟨by omega, _, by have := heap_alloc_new (w.alloc (.cells #[.string a0_0, .string a0_1, .int .i64 a0_2, .slice A0_3 l0_3.length c0_3] 26)) (.cells #[.pointer none, .slice none 0 0] 61); simpa using this, World.ownsRow_nil _ _ _ _, by simp [Value.ownBlock]⟩), ((Below.refl _ _).alloc (Nat.le_refl _) _).alloc (by simp) _⟩
  have HW := Lib.hid (fun W h => spell_walk w hT (w.heap.size + 1) _ ⟨a0_0, a0_1, a0_2, l0_3⟩ A0_3 c0_3 [] W (Nat.le_refl _) hc0_3 hr0_3 (by simp only [List.length_nil]; omega) h)
  dsimp only at HW
  go_enter Tryd.func14, Tryd.ntmps14
  go_wp2_with (first
    | (go_at_call 25; (with_reducible refine (HW.out _ HS0.out).mono ?_); rintro e w2 ⟨rfl, hS⟩; have HS := Lib.hid hS; clear hS HW HS0)
    | (go_at_call 26; refine (builder_string w.heap.size (w.heap.size + 1) _ _ HS.out.u HS.out.b.size).mono ?_; rintro e w3 ⟨rfl, hx2⟩))
  go_ret
  refine ⟨?_, HS.out.b.trans hx2⟩
  rw [← hr]
  simp
end Go.Proofs.YtgkojnpbgkglgaaDoor.Pr
