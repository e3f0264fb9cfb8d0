/- match: build, walked by hand: it lays the states that bld says. -/
import Derived.Test.YthlffghlkggimaaPuMtB0
import Derived.Deep.LoopGhost
import Derived.IntWalk
set_option linter.unusedVariables false
set_option linter.unusedSimpArgs false
namespace Go.Proofs.Ythlffghlkggimaa.Pr
open Go Go.RowKit Go.Proofs.YthlffghlkggimaaW.PrintWords Go.Proofs.YthlffghlkggimaaW.PrintLast Go.Proofs.YthlffghlkggimaaW.PrintMore
abbrev kRN := k52
mutual
def nsz : RNode → Nat
 | ⟨_, _, ks⟩ => nszL ks + 1
def nszL : List RNode → Nat
 | [] => 0
 | k :: r => nsz k + nszL r
end
theorem nsz_eq (n : RNode) : nsz n = nszL n.f2 + 1 := by cases n; rw [nsz]
theorem nsz_get {ks : List RNode} (i : Nat) (hi : i < ks.length) : nsz ks[i] ≤ nszL ks := by
 induction ks generalizing i with
 | nil => simp at hi
 | cons k r ih =>
  rw [nszL]
  cases i with
  | zero => simp
  | succ i => have := ih i (by simpa using hi); simp; omega
theorem wfL_get {ks : List RNode} (h : WfL ks) (i : Nat) (hi : i < ks.length) : Wf ks[i] := by
 induction ks generalizing i with
 | nil => simp at hi
 | cons k r ih =>
  rw [WfL] at h
  cases i with
  | zero => exact h.1
  | succ i => exact ih h.2 i (by simpa using hi)
theorem wfL_drop {ks : List RNode} (h : WfL ks) (i : Nat) : WfL (ks.drop i) := by
 induction ks generalizing i with
 | nil => simpa using h
 | cons k r ih =>
  cases i with
  | zero => exact h
  | succ i => rw [WfL] at h; exact ih h.2 i
theorem cntC_drop {ks : List RNode} (i : Nat) : cntC (ks.drop i) ≤ cntC ks := by
 induction ks generalizing i with
 | nil => simp
 | cons k r ih =>
  cases i with
  | zero => exact Nat.le_refl _
  | succ i => have := ih i; rw [cntC]; simp only [List.drop_succ_cons]; omega
theorem cntA_cons {k : RNode} {ks : List RNode} (h : ks ≠ []) : cntA (k :: ks) = cnt k + (cntA ks + 1) := by rw [cntA, if_neg h]
theorem cntA_drop {ks : List RNode} (i : Nat) : cntA (ks.drop i) ≤ cntA ks := by
 induction ks generalizing i with
 | nil => simp
 | cons k r ih =>
  cases i with
  | zero => exact Nat.le_refl _
  | succ i =>
   have := ih i
   simp only [List.drop_succ_cons]
   rw [cntA]
   split
   ·rename_i h; subst h; simp [cntA]
   ·omega
theorem kidN {w W : World} {A : Option Addr} {ks : List RNode} (h : Kd.C kRN w A ks.length ks) (hb : Below w.heap.size w W) (i : Nat) (hi : i < ks.length) :
  ∃ ad A5 c5, A = some ad ∧ W.cell? (ad.add (i * 6)) = some (.int .i64 ks[i].f0) ∧ W.cell? ⟨(ad.add (i * 6)).block, (ad.add (i * 6)).off + 1, none⟩ = some (.int .u64 ks[i].f1.f0) ∧ W.cell? ⟨(ad.add (i * 6)).block, (ad.add (i * 6)).off + 2, none⟩ = some (.int .u64 ks[i].f1.f1) ∧ W.cell? ⟨(ad.add (i * 6)).block, (ad.add (i * 6)).off + 3, none⟩ = some (.int .u64 ks[i].f1.f2) ∧
   W.cell? ⟨(ad.add (i * 6)).block, (ad.add (i * 6)).off + 4, none⟩ = some (.int .u64 ks[i].f1.f3) ∧ W.cell? ⟨(ad.add (i * 6)).block, (ad.add (i * 6)).off + 5, none⟩ = some (.slice A5 ks[i].f2.length c5) ∧ ks[i].f2.length ≤ c5 ∧ Kd.C kRN w A5 ks[i].f2.length ks[i].f2 := by
 obtain ⟨ad, A5, c5, e, f0, f1, f2, f3, f4, f5, l5, g5⟩ := at_T52 h (i : Int) (by omega) (by omega)
 have hr : rd_T52 ks (i : Int) = ks[i] := by simp [rd_T52, hi]
 rw [hr] at f0 f1 f2 f3 f4 f5 l5 g5
 rw [Int.toNat_natCast] at f0 f1 f2 f3 f4 f5
 have b0 := World.block_lt_of_cell? _ _ f0
 exact ⟨ad, A5, c5, e, (hb.cell (p := ad.add (i * 6)) b0).trans f0, (hb.cell (p := ⟨(ad.add (i * 6)).block, (ad.add (i * 6)).off + 1, none⟩) b0).trans f1, (hb.cell (p := ⟨(ad.add (i * 6)).block, (ad.add (i * 6)).off + 2, none⟩) b0).trans f2, (hb.cell (p := ⟨(ad.add (i * 6)).block, (ad.add (i * 6)).off + 3, none⟩) b0).trans f3, (hb.cell (p := ⟨(ad.add (i * 6)).block, (ad.add (i * 6)).off + 4, none⟩) b0).trans f4, (hb.cell (p := ⟨(ad.add (i * 6)).block, (ad.add (i * 6)).off + 5, none⟩) b0).trans f5, l5, g5⟩
abbrev ndAgg (n : RNode) (A : Option Addr) (c : Nat) : Value := .agg #[.int .i64 n.f0, .int .u64 n.f1.f0, .int .u64 n.f1.f1, .int .u64 n.f1.f2, .int .u64 n.f1.f3, .slice A n.f2.length c]
def BuildAt (w0 : World) (g : Nat) (st : Int) (sz : Nat) : Prop := ∀ (n : RNode) (A : Option Addr) (c tz : Nat) (l : List MSt) (W : World), nsz n ≤ sz → Wf n → l.length + cnt n ≤ 2000 → tz < l.length → n.f2.length ≤ c → Kd.C kRN w0 A n.f2.length n.f2 → PX w0 W g l st →
  Calls Try.prog 30 #[.pointer (some ⟨g, 0, none⟩), ndAgg n A c, .int .i64 (tz : Int)] W fun e W' => e = .returned (.int .i64 ((bld n tz l).1 : Int)) ∧ PX w0 W' g (bld n tz l).2 st ∧ KB W W' g
theorem get_last {l : List MSt} {s : MSt} {c : Nat} {y : Nat × List MSt} (h : Bd (l ++ [s]) c y) : y.2[l.length]? = some s := by rw [h.pre l.length (by simp)]; simp
section
variable {w0 W : World} {g : Nat} {l : List MSt} {st : Int}
theorem PX.patch (h : PX w0 W g l st) {i : Nat} {s : MSt} (hs : l[i]? = some s) (v : Int) :
  ∃ gr cap, W.cell? ⟨g, 0, none⟩ = some (.slice (some ⟨gr, 0, none⟩) l.length cap) ∧ (∃ u, W.cell? ⟨gr, i * 7 + 5, none⟩ = some u) ∧ W.frozen? ⟨gr, i * 7 + 5, none⟩ = false ∧ (∃ cs, W.heap[gr]? = some (.cells cs 68 (0, 0))) ∧ PX w0 (W.setCell ⟨gr, i * 7 + 5, none⟩ (.int .i64 v)) g (l.set i { s with f2 := v }) st ∧ KB W (W.setCell ⟨gr, i * 7 + 5, none⟩ (.int .i64 v)) g := by
 obtain ⟨⟨u, hb, hR⟩, hge, hbel⟩ := h
 obtain ⟨hi, he⟩ := List.getElem?_eq_some_iff.1 hs
 obtain ⟨gr, cap, rfl, hbase, _, hty⟩ := Kd.R_form hR (by omega)
 obtain ⟨cf, hcl, hN, hcc, hfr⟩ := Kd.R_elem hR z68 (i : Int) (by omega) (by omega)
 have hgd : l.getD ((i : Int).toNat) z68 = s := by rw [Int.toNat_natCast, List.getD_eq_getElem?_getD, hs]; rfl
 rw [hgd] at hN
 obtain rfl := k68_openM hN
 have HP := Kd.R_seg hR (i : Int) (by omega) (by omega) (seg := [.int .i64 v]) (j := 5) hcl hcc (show 6 ≤ 7 from by decide) (x' := { s with f2 := v }) (k68_mkM _ _ _ { s with f2 := v }) (fun _ hk => hk)
 have h5 := hcc 5 _ rfl
 have f5 := hfr 5
 rw [Int.toNat_natCast] at h5 f5 HP
 have hne : g ≠ gr := by
  rintro rfl
  obtain ⟨cs, hc⟩ := hty
  have e := hb.symm.trans hc
  injection e with e
  injection e with _ e _
  exact absurd e (by decide)
 refine ⟨gr, cap, (blk_cell hb 0).trans rfl, ⟨_, h5⟩, f5, hty, ⟨⟨_, (Below.heap_setCell _ _ _ _ hne).trans hb, HP.1⟩, hge, hbel.setCell (p := ⟨gr, i * 7 + 5, none⟩) (by show w0.heap.size ≤ gr; omega) _⟩, ?_⟩
 refine KB.grown (KB.refl W g) HP.2 (fun k hk => ?_)
 injection hk with hk
 subst hk
 obtain ⟨cs, hc⟩ := hty
 exact ⟨cs, _, hc⟩
theorem PX.field (h : PX w0 W g l st) : ∃ A c, W.cell? ⟨g, 0, none⟩ = some (.slice A l.length c) := by
 obtain ⟨⟨u, hb, hR⟩, _, _⟩ := h
 obtain ⟨A, c, rfl⟩ := Kd.R_slice hR
 exact ⟨A, c, (blk_cell hb 0).trans rfl⟩
theorem PX.first (h : PX w0 W g l st) : W.cell? ⟨g, 1, none⟩ = some (.int .i64 st) ∧ W.frozen? ⟨g, 1, none⟩ = false := by
 obtain ⟨⟨u, hb, hR⟩, _, _⟩ := h
 exact ⟨(blk_cell hb 1).trans rfl, blk_frozen hb 1⟩
end
end Go.Proofs.Ythlffghlkggimaa.Pr
