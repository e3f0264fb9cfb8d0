/- The document's All of a tree, walked by hand. -/
import Derived.Test.YtgkojnpbgkglgaaDoorPuAsR
set_option linter.unusedVariables false
set_option linter.unusedSimpArgs false
namespace Go.Proofs.YtgkojnpbgkglgaaDoor.Pr
open Go Go.RowKit Go.Proofs.YtgkojnpbgkglgaaDoorW.PrintWords Go.Proofs.YtgkojnpbgkglgaaDoorW.PrintLast Go.Proofs.YtgkojnpbgkglgaaDoorW.PrintMore

abbrev FNode := S50
abbrev kRN := k29
abbrev kFl := k50
mutual
def flR (d : Int) : RNode → List FNode
  | ⟨o, t, a, ks⟩ => ⟨d, ⟨o, t, a, ks⟩⟩ :: flKs (d + 1) ks
def flKs (d : Int) : List RNode → List FNode
  | [] => []
  | k :: r => flR d k ++ flKs d r
end
theorem flR_eq (d : Int) (n : RNode) : flR d n = ⟨d, n⟩ :: flKs (d + 1) n.f3 := by cases n; rw [flR]
theorem flKs_app (d : Int) (a b : List RNode) : flKs d (a ++ b) = flKs d a ++ flKs d b := by
  induction a with
  | nil => simp [flKs]
  | cons k r ih => simp [flKs, ih]
theorem flKs_snoc (d : Int) {ks : List RNode} (i : Nat) (hi : i < ks.length) : flKs d (ks.take (i + 1)) = flKs d (ks.take i) ++ flR d ks[i] := by
  rw [List.take_succ_eq_append_getElem hi, flKs_app]
  simp [flKs]
theorem flKs_le (d : Int) {ks : List RNode} (i : Nat) (hi : i < ks.length) : (flKs d (ks.take i)).length + (flR d ks[i]).length ≤ (flKs d ks).length := by
  have h : flKs d ks = flKs d (ks.take (i + 1)) ++ flKs d (ks.drop (i + 1)) := by rw [← flKs_app, List.take_append_drop]
  rw [h, flKs_snoc d i hi]
  simp only [List.length_append]
  omega
theorem flR_pos (d : Int) (n : RNode) : 0 < (flR d n).length := by rw [flR_eq]; simp
theorem flKs_len (d : Int) (l : List RNode) : l.length ≤ (flKs d l).length := by
  induction l with
  | nil => simp [flKs]
  | cons k r ih => have := flR_pos d k; simp [flKs]; omega
mutual
theorem fl_told (d : Int) : ∀ n : ANode, flR d (tlN n) = (allT d n).map fun x => ⟨x.1, tlN x.2⟩
  | ⟨o, t, a, ks⟩ => by rw [tlN, flR, allT, List.map_cons, tlN, fls_told (d + 1) ks]
theorem fls_told (d : Int) : ∀ l : List ANode, flKs d (tlL l) = (allKs d l).map fun x => ⟨x.1, tlN x.2⟩
  | [] => by rw [tlL, flKs, allKs]; rfl
  | k :: r => by rw [tlL, flKs, allKs, List.map_append, fl_told d k, fls_told d r]
end
theorem heap_rnode : Kd.Heap kRN := Kd.heap_fix (fun d hd => Kd.heap_iso _ (Kd.heap_pair Kd.heap_string (Kd.heap_pair Kd.heap_string (Kd.heap_pair (Kd.heap_int _) (Kd.heap_slice _ hd)))))
/-- rows that were laid before stay so whatever befalls the blocks behind -/
theorem frameR_at {X W : World} {A : Option Addr} {l : List RNode} (h : Kd.C kRN X A l.length l) (hb : Below X.heap.size X W) : Kd.F kRN W (fun k => k < X.heap.size) A l.length l := fun W' hW =>
  heap_rnode.C (fun k hk => (hW k hk (Nat.lt_of_lt_of_le hk hb.size)).trans (hb.block k hk)) h

/-- what All is to answer at trees of so many nodes -/
def RAllAt (w0 : World) (sz : Nat) : Prop := ∀ (n : RNode) (A : Option Addr) (c : Nat) (d : Int) (W : World), (flR d n).length ≤ sz → 0 ≤ d → d + sz ≤ 1000000000000 → n.f3.length ≤ c → Kd.C kRN w0 A n.f3.length n.f3 → Below w0.heap.size w0 W →
    Calls Tryd.prog 19 #[.agg #[.string n.f0, .string n.f1, .int .i64 n.f2, .slice A n.f3.length c], .int .i64 d] W fun e W' => ∃ v, e = .returned v ∧ Kd.N kFl 50 W' W.heap.size (fun k => k < w0.heap.size ∨ W.heap.size ≤ k) v (flR d n) ∧ Below W.heap.size W W'
set_option maxHeartbeats 8000000 in
set_option maxRecDepth 100000 in
theorem rall_walk (w0 : World) (sz : Nat) : RAllAt w0 sz := by
  induction sz with
  | zero => intro n A c d W h; have := flR_pos d n; omega
  | succ sz ih =>
    rintro ⟨o, t, a, ks⟩ A c d W hsz hd0 hd1 hc hC hB
    dsimp only at hc hC ⊢
    have hlen : (flR d ⟨o, t, a, ks⟩).length = (flKs (d + 1) ks).length + 1 := by rw [flR_eq, List.length_cons]
    rw [hlen] at hsz
    have hu := Tryd.underlying29
    have hu2 := Tryd.underlying50
    have hkl := flKs_len (d + 1) ks
    have hw0 := hB.size
    have HIH := Lib.hid ih
    have HC := Lib.hid hC
    have HFR := Lib.hid (frameR_at hC hB)
    have HB := Lib.hid hB
    have HBX := Lib.hid (heap_alloc_new W (.cells #[.string o, .string t, .int .i64 a, .slice A ks.length c] 29))
    have HEQ := Lib.hid (flR_eq d ⟨o, t, a, ks⟩)
    clear ih hC hB hlen
    go_enter Tryd.func19, Tryd.ntmps19
    go_wp2_with (((with_reducible refine gate_dst (N := 11) rfl ?_); (try (refine gate_guard (by rfl) ?_; dsimp only)); refine Kd.N_lit kFl _ 50 ?hg (N' := 11) ?hd (xs := ([(⟨d, (⟨o, t, a, ks⟩ : RNode)⟩ : FNode)] : List FNode)) (inner := [.int .i64 d, .string o, .string t, .int .i64 a, .slice A ks.length c]) (ok := fun k => k < w0.heap.size ∨ W.heap.size ≤ k) (okp := fun k => k < w0.heap.size) ?hr ?hp (fun _ hk => .inl hk) (.inr (by simp)) (Below.refl _ _) (Nat.le_refl _) (by simp) ?_; (case hd => rfl); (case hg => rfl); (case hr => first | (go_simp; done) | (go_simp; rfl)); (case hp => exact (Reps.c5 (k50_mkF _ _ (⟨d, (⟨o, t, a, ks⟩ : RNode)⟩ : FNode) hc (frameR_at HC.out (HB.out.alloc HB.out.size _))) (Reps.none _ _))); intro v11 w11 ho hb hg_ hnew_; have ho := Kd.N_lower ho (show W.heap.size ≤ _ by simp); have HO := Lib.hid ho; have HB11 := Lib.hid (show Below W.heap.size W w11 from ((Below.refl _ _).alloc (Nat.le_refl _) _).trans (hb.mono (by simp))); have k3 : w11.cell? ⟨W.heap.size, 3, none⟩ = some (.slice A ks.length c) := (blk_cell ((hb.block _ (by simp)).trans HBX.out) 3).trans rfl; clear hg_ hnew_ ho hb))
    go_loopg [5, 15] (ks.length + 1) (fun gk s v wr => ∃ i : Nat, v = .int .i64 (i : Int) ∧ i ≤ ks.length ∧ ks.length < gk + i ∧ Hid (Kd.N kFl 50 wr W.heap.size (fun k => k < w0.heap.size ∨ W.heap.size ≤ k) s (⟨d, ⟨o, t, a, ks⟩⟩ :: flKs (d + 1) (ks.take i))) ∧ Hid (Below W.heap.size W wr))
    case atStart => exact ⟨0, rfl, by omega, by omega, Lib.hid (by simpa [flKs] using HO.out), HB11⟩
    case round =>
      clear HO HB11 k3
      obtain ⟨i, rfl, hi, hgk, HO, HBW⟩ := hrel
      by_cases hlt : i < ks.length
      · have hdc : decide ((i : Int) < (ks.length : Int)) = true := decide_eq_true (by omega)
        have hle := flKs_le (d + 1) i hlt
        have hsnoc := Lib.hid (flKs_snoc (d + 1) i hlt)
        have hwr : wrap64 (d + 1) = d + 1 := w64 (by omega) (by omega)
        have HB0 := Lib.hid (HB.out.trans (HBW.out.mono HB.out.size))
        obtain ⟨ad, A3, c3, eA, f0, f1, f2, f3, l3, g3⟩ := kidRC HC.out HB0.out i hlt
        have IH := Lib.hid (fun W' h => HIH.out ks[i] A3 c3 (d + 1) W' (by omega) (by omega) (by omega) l3 g3 h)
        subst eA
        clear g3
        have hlu := Kd.N_lt HO.out
        have hbu := Kd.N_base HO.out
        have hs1 := HBW.out.size
        go_wp2_with (first
          | (go_at_call 19; (try rw [hwr]); (with_reducible refine (IH.out _ (HB0.out.alloc HB0.out.size _)).mono ?_); rintro e w4 ⟨v2, rfl, hN, hb4⟩; obtain ⟨A2, c2, rfl⟩ := Kd.N_slice hN; have HN := Lib.hid hN; have HBK := Lib.hid (((Below.refl wr.heap.size wr).alloc (Nat.le_refl _) (.cells #[.string ks[i].f0, .string ks[i].f1, .int .i64 ks[i].f2, .slice A3 ks[i].f3.length c3] 29)).trans (hb4.mono (by simp))); clear hN hb4)
          | ((with_reducible refine gate_builtin (b := .append) (xs := #[.tmp 19, .tmp 23]) rfl ?_); (try (refine gate_guard (by rfl) ?_; dsimp only)); at_builtin; refine Kd.N_append_rows kFl (w0 := W) W.heap.size rfl (.tmp 19) (.tmp 23) 47 50 (.agg #[(.int .i64 0), (.string ⟨#[]⟩), (.string ⟨#[]⟩), (.int .i64 0), (.slice none 0 0)]) 72 rfl Tryd.underlying47 info50 rfl (by decide) (by omega) u5 (⟨d, ⟨o, t, a, ks⟩⟩ :: flKs (d + 1) (ks.take i)) (flR (d + 1) ks[i]) _ _ _ (fun k => k < w0.heap.size ∨ W.heap.size ≤ k) (fun k => k < w0.heap.size ∨ wr.heap.size + 1 ≤ k) rfl rfl ?aO ?aR ?aK ?aF ?aB ?aS ?aL ?_; (case aO => exact Kd.N_below HO.out HBK.out); (case aR => exact Kd.N_F (Kd.N_mono HN.out (fun k hk => by simpa using hk))); (case aK => exact fun k hk => ⟨by omega, fun e => by have := hlu k e.symm; have := hbu k e.symm; omega⟩); (case aF => exact fun k hk => by have := HBK.out.size; omega); (case aB => exact HBW.out.trans (HBK.out.mono hs1)); (case aS => have := HBK.out.size; omega); (case aL => rw [List.length_cons]; omega); intro v24 w24 ho hb hg hat; have HO24 := Lib.hid ho; have HB24 := Lib.hid hb; clear ho hb hg hat))
        go_roundg (gk - 1)
        case measure => omega
        case rel => exact ⟨i + 1, by (simp <;> (unfold wrap64; omega)), by omega, by omega, Lib.hid (by rw [hsnoc.out]; simpa using HO24.out), HB24⟩
      · obtain rfl : i = ks.length := by omega
        have hdc : decide ((ks.length : Int) < (ks.length : Int)) = false := decide_eq_false (by omega)
        have ho := HO.out
        rw [List.take_length, ← HEQ.out] at ho
        have HO := Lib.hid ho
        clear ho
        go_wp2
        go_ret
        exact ⟨_, rfl, HO.out, HBW.out⟩
end Go.Proofs.YtgkojnpbgkglgaaDoor.Pr
