/- match: build, walked by hand: it lays the states that bld says (written by tools/mkbuild.py). -/
import Derived.Test.YthlffghlkggimaaPuMtB
set_option linter.unusedVariables false
set_option linter.unusedSimpArgs false
namespace Go.Proofs.Ythlffghlkggimaa.Pr
open Go Go.RowKit Go.Proofs.YthlffghlkggimaaW.PrintWords Go.Proofs.YthlffghlkggimaaW.PrintLast Go.Proofs.YthlffghlkggimaaW.PrintMore
theorem bldC_drop {ks : List RNode} (i : Nat) (hi : i < ks.length) (tz : Nat) (l : List MSt) : bldC (ks.drop i) tz l = bld ks[i] (bldC (ks.drop (i + 1)) tz l).1 (bldC (ks.drop (i + 1)) tz l).2 := by rw [List.drop_eq_getElem_cons hi, bldC]
theorem bldA_drop {ks : List RNode} (i : Nat) (hi : i + 1 < ks.length) (tz : Nat) (l : List MSt) : bldA (ks.drop i) tz l = ((bld ks[i] tz (bldA (ks.drop (i + 1)) tz l).2).2.length, (bld ks[i] tz (bldA (ks.drop (i + 1)) tz l).2).2 ++ [⟨1, zW, ((bld ks[i] tz (bldA (ks.drop (i + 1)) tz l).2).1 : Int), ((bldA (ks.drop (i + 1)) tz l).1 : Int)⟩]) := by
 rw [List.drop_eq_getElem_cons (by omega : i < ks.length), bldA]
 dsimp only
 rw [if_neg (by intro h; have := congrArg List.length h; simp at this; omega)]
theorem cntA_drop1 {ks : List RNode} (i : Nat) (hi : i + 1 < ks.length) : cnt ks[i] + cntA (ks.drop (i + 1)) + 1 ≤ cntA ks := by
 have h := cntA_drop (ks := ks) i
 rw [List.drop_eq_getElem_cons (by omega : i < ks.length), cntA_cons (by intro h; have := congrArg List.length h; simp at this; omega)] at h
 omega
theorem cntC_drop1 {ks : List RNode} (i : Nat) (hi : i < ks.length) : cnt ks[i] + cntC (ks.drop (i + 1)) ≤ cntC ks := by
 have h := cntC_drop (ks := ks) i
 rw [List.drop_eq_getElem_cons hi, cntC] at h
 omega
theorem bldA_last {ks : List RNode} (i : Nat) (hi : i + 1 = ks.length) (tz : Nat) (l : List MSt) : bldA (ks.drop i) tz l = bld (ks[i]'(by omega)) tz l := by
 rw [List.drop_eq_getElem_cons (by omega : i < ks.length), bldA]
 dsimp only
 rw [if_pos (by rw [hi]; exact List.drop_length)]
theorem cntA_get {ks : List RNode} (i : Nat) (hi : i < ks.length) : cnt ks[i] ≤ cntA ks := by
 have h := cntA_drop (ks := ks) i
 rw [List.drop_eq_getElem_cons hi, cntA] at h
 omega
theorem bldH_0 {ks : List RNode} (h : 0 < ks.length) (tz : Nat) (l : List MSt) : bldH ks tz l = bld ks[0] tz l := by
 cases ks with
 | nil => simp at h
 | cons k r => rw [bldH]; rfl
theorem cntH_0 {ks : List RNode} (h : 0 < ks.length) : cntH ks = cnt ks[0] := by
 cases ks with
 | nil => simp at h
 | cons k r => rw [cntH]; rfl
theorem add_none (a : Addr) : a.add (0 * 6) = a := by simp [Addr.add]
theorem kid_bound {n : Nat} (h : n ≤ 9223372036854775807) : (n : Int) ≤ 9223372036854775807 := by omega
theorem wm0 (m : Nat) (h : (m : Int) ≤ 9223372036854775807) : wrap64 (m : Int) = (m : Int) := w64 (by omega) h
theorem wm1 (m : Nat) (h : (m : Int) ≤ 9223372036854775807) : wrap64 ((m : Int) - 1) = (m : Int) - 1 := w64 (by omega) (by omega)
def BoxN (X : World) (b : Nat) (op : Int) (sw : RSet) (A : Option Addr) (n c : Nat) : Prop :=
 X.heap[b]? = some (.cells #[.int .i64 op, .int .u64 sw.f0, .int .u64 sw.f1, .int .u64 sw.f2, .int .u64 sw.f3, .slice A n c] 52 (0, 0))
theorem BoxN.cells {X : World} {b : Nat} {op : Int} {sw : RSet} {A : Option Addr} {n c : Nat} (h : BoxN X b op sw A n c) : X.cell? ⟨b, 0, none⟩ = some (.int .i64 op) ∧ X.cell? ⟨b, 1, none⟩ = some (.int .u64 sw.f0) ∧ X.cell? ⟨b, 2, none⟩ = some (.int .u64 sw.f1) ∧ X.cell? ⟨b, 3, none⟩ = some (.int .u64 sw.f2) ∧ X.cell? ⟨b, 4, none⟩ = some (.int .u64 sw.f3) ∧ X.cell? ⟨b, 5, none⟩ = some (.slice A n c) :=
 ⟨(blk_cell h 0).trans rfl, (blk_cell h 1).trans rfl, (blk_cell h 2).trans rfl, (blk_cell h 3).trans rfl, (blk_cell h 4).trans rfl, (blk_cell h 5).trans rfl⟩
theorem BoxN.keep {X Y : World} {b g : Nat} {op : Int} {sw : RSet} {A : Option Addr} {n c : Nat} (h : BoxN X b op sw A n c) (hk : KB X Y g) (hb : b ≠ g) : BoxN Y b op sw A n c := hk.blk h hb (by decide)
theorem ne_type {X : World} {b gr : Nat} {op : Int} {sw : RSet} {A : Option Addr} {n c : Nat} {cs : Array Value} (h : BoxN X b op sw A n c) (h2 : X.heap[gr]? = some (.cells cs 68 (0, 0))) : b ≠ gr := by
 rintro rfl
 have e := h.symm.trans h2
 injection e with e
 injection e with _ e _
 exact absurd e (by decide)
set_option maxHeartbeats 16000000 in
set_option maxRecDepth 100000 in
theorem build_walk (w0 : World) (g : Nat) (st : Int) (sz : Nat) : BuildAt w0 g st sz := by
 induction sz with
 | zero => intro n A c tz l W h; rw [nsz_eq] at h; omega
 | succ sz ih =>
  rintro ⟨op, sw, ks⟩ A c tz l W hsz hw hcnt htz hc hC hP
  rw [nsz_eq] at hsz
  dsimp only at hc hC hsz
  have hu := Try.underlying66
  have hu2 := Try.underlying52
  have hu3 := Try.underlying68
  have hus := Try.underlying49
  have hgl := hP.lt
  have hgne : W.heap.size ≠ g := by omega
  obtain ⟨Wb, hWb⟩ : ∃ Wb, W.alloc (.cells #[.int .i64 op, .int .u64 sw.f0, .int .u64 sw.f1, .int .u64 sw.f2, .int .u64 sw.f3, .slice A ks.length c] 52) = Wb := ⟨_, rfl⟩
  have hbb : Below W.heap.size W Wb := by rw [← hWb]; exact (Below.refl _ _).alloc (Nat.le_refl _) _
  have hbx : BoxN Wb W.heap.size op sw A ks.length c := by rw [← hWb]; exact heap_alloc_new W _
  obtain ⟨b0, b1, b2, b3, b4, b5⟩ := hbx.cells
  obtain ⟨Al, cl, p0⟩ := (hP.below hbb).field
  have hkl := kid_bound hC.2.1
  have HP := Lib.hid (hP.below hbb)
  have HKB : Hid (KB W Wb g) := Lib.hid (KB.of_below hbb)
  have HBX := Lib.hid hbx
  have HC := Lib.hid hC
  have hll : l.length ≤ 2000 := by omega
  have hd1 : decide (2000 < l.length) = false := decide_eq_false (by omega)
  have hd2 : decide ((2000 : Int) < (l.length : Int)) = false := decide_eq_false (by omega)
  have hd3 : decide ((l.length : Int) > 2000) = false := decide_eq_false (by omega)
  unfold Wf at hw
  obtain ⟨hwk, hw3, hw4⟩ := hw
  have HIH := Lib.hid ih
  clear ih hP hbb hbx hC
  rcases op_cases op with rfl | rfl | rfl | rfl | rfl | rfl | rfl | rfl | hop
  ·-- 1
   rw [bld_1]
   rw [cnt_1 _ _ (by omega)] at hcnt
   go_enter Try.func30, Try.ntmps30
   go_wp2_with (go_at_call 37; refine (match_add g l st ⟨0, sw, (tz : Int), 0⟩ w0 _ (by repeat (first | exact HP.out | apply PX.alloc | apply PX.drewN | apply PX.drew)) (by omega)).mono ?_; rintro e w2 ⟨rfl, hp_, hk_⟩; have HP2 := Lib.hid hp_; have HK2 := Lib.hid hk_; clear hp_ hk_)
   go_ret
   exact ⟨rfl, HP2.out, HKB.out.trans HK2.out⟩
  ·-- 7
   rw [bld_7]
   rw [cnt_1 _ _ (by omega)] at hcnt
   go_enter Try.func30, Try.ntmps30
   go_wp2_with (go_at_call 37; refine (match_add g l st ⟨2, zW, (tz : Int), 0⟩ w0 _ (by repeat (first | exact HP.out | apply PX.alloc | apply PX.drewN | apply PX.drew)) (by omega)).mono ?_; rintro e w2 ⟨rfl, hp_, hk_⟩; have HP2 := Lib.hid hp_; have HK2 := Lib.hid hk_; clear hp_ hk_)
   go_ret
   exact ⟨rfl, HP2.out, HKB.out.trans HK2.out⟩
  ·-- 8
   rw [bld_8]
   rw [cnt_1 _ _ (by omega)] at hcnt
   go_enter Try.func30, Try.ntmps30
   go_wp2_with (go_at_call 37; refine (match_add g l st ⟨3, zW, (tz : Int), 0⟩ w0 _ (by repeat (first | exact HP.out | apply PX.alloc | apply PX.drewN | apply PX.drew)) (by omega)).mono ?_; rintro e w2 ⟨rfl, hp_, hk_⟩; have HP2 := Lib.hid hp_; have HK2 := Lib.hid hk_; clear hp_ hk_)
   go_ret
   exact ⟨rfl, HP2.out, HKB.out.trans HK2.out⟩
  ·-- 2
   rw [bld_2]
   rw [cnt_2] at hcnt
   go_enter Try.func30, Try.ntmps30
   go_wp2
   go_loopg [2, 7] (ks.length + 2) (fun gk v2 v7 wr => ∃ j : Nat, v2 = .int .i64 ((bldC (ks.drop j) tz l).1 : Int) ∧ v7 = .int .i64 ((j : Int) - 1) ∧ j ≤ ks.length ∧ j < gk ∧ Hid (PX w0 wr g (bldC (ks.drop j) tz l).2 st) ∧ Hid (KB Wb wr g))
   case atStart => exact ⟨ks.length, by rw [List.drop_length, bldC], (by first | rfl | (simp; done) | (simp [*]; done) | (simp; unfold wrap64; omega)), Nat.le_refl _, by omega, Lib.hid (by rw [List.drop_length, bldC]; exact (by repeat (first | exact HP.out | apply PX.alloc | apply PX.drewN | apply PX.drew))), Lib.hid (KB.refl _ _)⟩
   case round =>
    obtain ⟨j, rfl, rfl, hj, hjk, HPJ, HKJ⟩ := hrel
    clear b0 b1 b2 b3 b4 b5 p0
    cases j with
    | zero =>
     have e0 : (((0 : Nat) : Int) - 1) = -1 := rfl
     rw [e0]
     go_wp2
     go_ret
     exact ⟨by rw [List.drop_zero]; rfl, by have := HPJ.out; rwa [List.drop_zero] at this, HKB.out.trans HKJ.out⟩
    | succ i =>
     have hi : i < ks.length := by omega
     have e1 : (((i + 1 : Nat) : Int) - 1) = (i : Int) := by omega
     rw [e1]
     have hge : decide ((i : Int) ≥ 0) = true := decide_eq_true (by omega)
     have hge2 : decide ((0 : Int) ≤ (i : Int)) = true := decide_eq_true (by omega)
     have hbd := bldC_bd (ks.drop (i + 1)) tz l (wfL_drop hwk _) htz
     have hblen := hbd.len
     have hblt := hbd.lt
     have hcd := cntC_drop1 i hi
     have hnz := nsz_get i hi
     have hbj := HBX.out.keep HKJ.out hgne
     obtain ⟨b0, b1, b2, b3, b4, b5⟩ := hbj.cells
     have HDR := Lib.hid (bldC_drop i hi tz l)
     obtain ⟨ad, A5, c5, eA, k0, k1, k2, k3, k4, k5, l5, g5⟩ := kidN HC.out HPJ.out.bel i hi
     cases eA
     have HG5 := Lib.hid g5
     clear g5
     generalize bldC (ks.drop (i + 1)) tz l = y at HPJ HDR hblen hblt ⊢
     clear hbd hbj
     go_wp2_with (go_at_call 30; refine (HIH.out ks[i] A5 c5 y.1 y.2 _ (by omega) (wfL_get hwk i hi) (by omega) hblt l5 HG5.out (by repeat (first | exact HPJ.out | apply PX.alloc | apply PX.drewN | apply PX.drew))).mono ?_; rintro e w3 ⟨rfl, hp_, hk_⟩; have HP3 := Lib.hid hp_; have HK3 := Lib.hid hk_; clear hp_ hk_)
     go_roundg (gk - 1)
     case measure => omega
     case rel => exact ⟨i, by rw [HDR.out], (by first | rfl | (simp; done) | (simp [*]; done) | (simp; unfold wrap64; omega)), by omega, by omega, Lib.hid (by rw [HDR.out]; exact HP3.out), Lib.hid (HKJ.out.trans HK3.out)⟩
  ·-- 3
   rw [bld_3]
   rw [cnt_3] at hcnt
   have hks := hw3 rfl
   obtain ⟨m, hm⟩ : ∃ m, m + 1 = ks.length := ⟨ks.length - 1, by have := List.length_pos_iff.2 hks; omega⟩
   have hmi : m < ks.length := by omega
   have e1 : (ks.length : Int) - 1 = (m : Int) := by omega
   have e2 : (ks.length : Int) - 2 = (m : Int) - 1 := by omega
   have hmk : (m : Int) ≤ 9223372036854775807 := by omega
   have v1 : IntKind.i64.wrap ((ks.length : Int) - 1) = (m : Int) := by rw [e1]; exact (i64_w _).trans (wm0 m hmk)
   have v2 : IntKind.i64.wrap ((ks.length : Int) - 2) = (m : Int) - 1 := by rw [e2]; exact (i64_w _).trans (wm1 m hmk)
   clear hmk e1 e2
   have hdm : decide (m < ks.length) = true := decide_eq_true hmi
   have hca := cntA_get m hmi
   have hnz := nsz_get m hmi
   have HL := Lib.hid (bldA_last (ks := ks) m hm tz l)
   obtain ⟨ad, A5, c5, eA, k0, k1, k2, k3, k4, k5, l5, g5⟩ := kidN HC.out HP.out.bel m hmi
   cases eA
   have HG5 := Lib.hid g5
   clear g5
   go_enter Try.func30, Try.ntmps30
   go_wp2_with (first | (go_at_call 30; refine (HIH.out ks[m] A5 c5 tz l _ (by omega) (wfL_get hwk m hmi) (by omega) htz l5 HG5.out (by repeat (first | exact HP.out | apply PX.alloc | apply PX.drewN | apply PX.drew))).mono ?_; rintro e w2 ⟨rfl, hp_, hk_⟩; have HP2 := Lib.hid hp_; have HK2 := Lib.hid hk_; clear hp_ hk_; have hbj := HBX.out.keep HK2.out hgne; clear b0 b1 b2 b3 b4 b5 p0 k0 k1 k2 k3 k4 k5; obtain ⟨b0, b1, b2, b3, b4, b5⟩ := hbj.cells; clear hbj) | fail)
   go_loopg [8, 9] (m + 2) (fun gk v8 v9 wr => ∃ j : Nat, v8 = .int .i64 ((bldA (ks.drop j) tz l).1 : Int) ∧ v9 = .int .i64 ((j : Int) - 1) ∧ j ≤ m ∧ j < gk ∧ Hid (PX w0 wr g (bldA (ks.drop j) tz l).2 st) ∧ Hid (KB Wb wr g))
   case atStart => exact ⟨m, by rw [HL.out], (by first | rfl | (simp; done) | (simp [*]; done) | (simp; unfold wrap64; omega)), Nat.le_refl _, by omega, Lib.hid (by rw [HL.out]; exact HP2.out), HK2⟩
   case round =>
    obtain ⟨j, rfl, rfl, hj, hjk, HPJ, HKJ⟩ := hrel
    clear b0 b1 b2 b3 b4 b5 l5 HG5
    cases j with
    | zero =>
     have e0 : (((0 : Nat) : Int) - 1) = -1 := rfl
     rw [e0]
     go_wp2
     go_ret
     exact ⟨by rw [List.drop_zero]; rfl, by have := HPJ.out; rwa [List.drop_zero] at this, HKB.out.trans HKJ.out⟩
    | succ i =>
     have hi : i < ks.length := by omega
     have e3 : (((i + 1 : Nat) : Int) - 1) = (i : Int) := by omega
     rw [e3]
     have hge : decide ((i : Int) ≥ 0) = true := decide_eq_true (by omega)
     have hge2 : decide ((0 : Int) ≤ (i : Int)) = true := decide_eq_true (by omega)
     have hne : ks.drop (i + 1) ≠ [] := by intro h; have := congrArg List.length h; simp at this; omega
     have hbd := bldA_bd (ks.drop (i + 1)) tz l (wfL_drop hwk _) hne htz
     have hblen := hbd.len
     have hblt := hbd.lt
     have hcd := cntA_drop1 (ks := ks) i (by omega)
     have hnz2 := nsz_get i hi
     have htl : tz < (bldA (ks.drop (i + 1)) tz l).2.length := Nat.lt_of_lt_of_le htz (by rw [hblen]; exact Nat.le_add_right _ _)
     have hbk := bld_bd ks[i] tz (bldA (ks.drop (i + 1)) tz l).2 (wfL_get hwk i hi) htl
     have HBL := Lib.hid hbk.len
     have hbj := HBX.out.keep HKJ.out hgne
     obtain ⟨b0, b1, b2, b3, b4, b5⟩ := hbj.cells
     have HDR := Lib.hid (bldA_drop (ks := ks) i (by omega) tz l)
     obtain ⟨ad, A5, c5, eA, k0, k1, k2, k3, k4, k5, l5, g5⟩ := kidN HC.out HPJ.out.bel i hi
     cases eA
     have HG5 := Lib.hid g5
     clear g5
     generalize bldA (ks.drop (i + 1)) tz l = y at HPJ HDR hblen hblt HBL htl ⊢
     clear hbd hbj hbk
     go_wp2_with (first | (go_at_call 30; refine (HIH.out ks[i] A5 c5 tz y.2 _ (by omega) (wfL_get hwk i hi) (by omega) htl l5 HG5.out (by repeat (first | exact HPJ.out | apply PX.alloc | apply PX.drewN | apply PX.drew))).mono ?_; rintro e w3 ⟨rfl, hp_, hk_⟩; have HP3 := Lib.hid hp_; have HK3 := Lib.hid hk_; clear hp_ hk_) | (go_at_call 37; refine (match_add g (bld ks[i] tz y.2).2 st ⟨1, zW, ((bld ks[i] tz y.2).1 : Int), (y.1 : Int)⟩ w0 _ (by repeat (first | exact HP3.out | apply PX.alloc | apply PX.drewN | apply PX.drew)) (by have := HBL.out; omega)).mono ?_; rintro e w4 ⟨rfl, hp_, hk_⟩; have HP4 := Lib.hid hp_; have HK4 := Lib.hid hk_; clear hp_ hk_))
     go_roundg (gk - 1)
     case measure => omega
     case rel => exact ⟨i, by rw [HDR.out], (by first | rfl | (simp; done) | (simp [*]; done) | (simp; unfold wrap64; omega)), by omega, by omega, Lib.hid (by rw [HDR.out]; exact HP4.out), Lib.hid (HKJ.out.trans (HK3.out.trans HK4.out))⟩
  ·-- 4
   rw [bld_4]
   rw [cnt_4 _ _ (by omega)] at hcnt
   have hi : 0 < ks.length := List.length_pos_iff.2 (hw4 (by omega))
   rw [bldH_0 hi]
   rw [cntH_0 hi] at hcnt
   have hdi : decide (0 < ks.length) = true := decide_eq_true hi
   have hnz := nsz_get 0 hi
   have hwk0 := wfL_get hwk 0 hi
   have hbd := bld_bd ks[0] l.length (l ++ [⟨1, zW, 0, (tz : Int)⟩]) hwk0 (by simp)
   have HS := Lib.hid (get_last hbd)
   have HBL := Lib.hid hbd.len
   have hln : (l ++ [(⟨1, zW, 0, (tz : Int)⟩ : MSt)]).length = l.length + 1 := by simp
   have hdj : decide (l.length < (bld ks[0] l.length (l ++ [⟨1, zW, 0, (tz : Int)⟩])).2.length) = true := decide_eq_true (by have := HBL.out; omega)
   have hdk : l.length < (bld ks[0] l.length (l ++ [⟨1, zW, 0, (tz : Int)⟩])).2.length := by have := HBL.out; omega
   clear hbd
   go_enter Try.func30, Try.ntmps30
   go_wp2_with (first | (go_at_call 30; refine (HIH.out ks[0] A5 c5 l.length (l ++ [⟨1, zW, 0, (tz : Int)⟩]) _ (by omega) hwk0 (by omega) (by omega) l5 HG5.out (by repeat (first | exact HP2.out | apply PX.alloc | apply PX.drewN | apply PX.drew))).mono ?_; rintro e w3 ⟨rfl, hp_, hk_⟩; have HP3 := Lib.hid hp_; have HK3 := Lib.hid hk_; clear hp_ hk_; obtain ⟨gr, cap, q0, ⟨qu, q1⟩, q2, ⟨qc, q3⟩, hp4, hk4⟩ := HP3.out.patch HS.out ((bld ks[0] l.length (l ++ [⟨1, zW, 0, (tz : Int)⟩])).1 : Int); have hb3 := HBJ.out.keep HK3.out hgne; have hgr : W.heap.size ≠ gr := ne_type hb3 q3; clear b0 b1 b2 b3 b4 b5 k0 k1 k2 k3 k4 k5 q3; have HP4 := Lib.hid hp4; have HK4 := Lib.hid hk4; have HB3 := Lib.hid hb3; obtain ⟨b0, b1, b2, b3, b4, b5⟩ := hb3.cells; clear hp4 hk4 hb3) | (go_at_call 37; refine (match_add g l st ⟨1, zW, 0, (tz : Int)⟩ w0 _ (by repeat (first | exact HP.out | apply PX.alloc | apply PX.drewN | apply PX.drew)) (by omega)).mono ?_; rintro e w2 ⟨rfl, hp_, hk_⟩; have HP2 := Lib.hid hp_; have HK2 := Lib.hid hk_; clear hp_ hk_; have hbj := HBX.out.keep HK2.out hgne; clear b0 b1 b2 b3 b4 b5 p0; obtain ⟨b0, b1, b2, b3, b4, b5⟩ := hbj.cells; obtain ⟨ad, A5, c5, eA, k0, k1, k2, k3, k4, k5, l5, g5⟩ := kidN HC.out HP2.out.bel 0 hi; subst eA; have HG5 := Lib.hid g5; clear g5 hbj; simp only [add_none] at k0 k1 k2 k3 k4 k5; have HBJ := Lib.hid (HBX.out.keep HK2.out hgne)))
   go_ret
   exact ⟨rfl, HP4.out, HKB.out.trans (HK2.out.trans (HK3.out.trans HK4.out))⟩
  ·-- 5
   rw [bld_5]
   rw [cnt_4 _ _ (by omega)] at hcnt
   have hi : 0 < ks.length := List.length_pos_iff.2 (hw4 (by omega))
   rw [bldH_0 hi]
   rw [cntH_0 hi] at hcnt
   have hdi : decide (0 < ks.length) = true := decide_eq_true hi
   have hnz := nsz_get 0 hi
   have hwk0 := wfL_get hwk 0 hi
   have hbd := bld_bd ks[0] l.length (l ++ [⟨1, zW, 0, (tz : Int)⟩]) hwk0 (by simp)
   have HS := Lib.hid (get_last hbd)
   have HBL := Lib.hid hbd.len
   have hln : (l ++ [(⟨1, zW, 0, (tz : Int)⟩ : MSt)]).length = l.length + 1 := by simp
   have hdj : decide (l.length < (bld ks[0] l.length (l ++ [⟨1, zW, 0, (tz : Int)⟩])).2.length) = true := decide_eq_true (by have := HBL.out; omega)
   have hdk : l.length < (bld ks[0] l.length (l ++ [⟨1, zW, 0, (tz : Int)⟩])).2.length := by have := HBL.out; omega
   clear hbd
   go_enter Try.func30, Try.ntmps30
   go_wp2_with (first | (go_at_call 30; refine (HIH.out ks[0] A5 c5 l.length (l ++ [⟨1, zW, 0, (tz : Int)⟩]) _ (by omega) hwk0 (by omega) (by omega) l5 HG5.out (by repeat (first | exact HP2.out | apply PX.alloc | apply PX.drewN | apply PX.drew))).mono ?_; rintro e w3 ⟨rfl, hp_, hk_⟩; have HP3 := Lib.hid hp_; have HK3 := Lib.hid hk_; clear hp_ hk_; obtain ⟨gr, cap, q0, ⟨qu, q1⟩, q2, ⟨qc, q3⟩, hp4, hk4⟩ := HP3.out.patch HS.out ((bld ks[0] l.length (l ++ [⟨1, zW, 0, (tz : Int)⟩])).1 : Int); have hb3 := HBJ.out.keep HK3.out hgne; have hgr : W.heap.size ≠ gr := ne_type hb3 q3; clear b0 b1 b2 b3 b4 b5 k0 k1 k2 k3 k4 k5 q3; have HP4 := Lib.hid hp4; have HK4 := Lib.hid hk4; have HB3 := Lib.hid hb3; obtain ⟨b0, b1, b2, b3, b4, b5⟩ := hb3.cells; clear hp4 hk4 hb3) | (go_at_call 37; refine (match_add g l st ⟨1, zW, 0, (tz : Int)⟩ w0 _ (by repeat (first | exact HP.out | apply PX.alloc | apply PX.drewN | apply PX.drew)) (by omega)).mono ?_; rintro e w2 ⟨rfl, hp_, hk_⟩; have HP2 := Lib.hid hp_; have HK2 := Lib.hid hk_; clear hp_ hk_; have hbj := HBX.out.keep HK2.out hgne; clear b0 b1 b2 b3 b4 b5 p0; obtain ⟨b0, b1, b2, b3, b4, b5⟩ := hbj.cells; obtain ⟨ad, A5, c5, eA, k0, k1, k2, k3, k4, k5, l5, g5⟩ := kidN HC.out HP2.out.bel 0 hi; subst eA; have HG5 := Lib.hid g5; clear g5 hbj; simp only [add_none] at k0 k1 k2 k3 k4 k5; have HBJ := Lib.hid (HBX.out.keep HK2.out hgne)))
   go_ret
   exact ⟨rfl, HP4.out, HKB.out.trans (HK2.out.trans (HK3.out.trans HK4.out))⟩
  ·-- 6
   rw [bld_6]
   rw [cnt_4 _ _ (by omega)] at hcnt
   have hi : 0 < ks.length := List.length_pos_iff.2 (hw4 (by omega))
   rw [bldH_0 hi]
   rw [cntH_0 hi] at hcnt
   have hdi : decide (0 < ks.length) = true := decide_eq_true hi
   have hnz := nsz_get 0 hi
   have hwk0 := wfL_get hwk 0 hi
   have hbd := bld_bd ks[0] tz l hwk0 htz
   have HBL := Lib.hid hbd.len
   obtain ⟨ad, A5, c5, eA, k0, k1, k2, k3, k4, k5, l5, g5⟩ := kidN HC.out HP.out.bel 0 hi
   cases eA
   have HG5 := Lib.hid g5
   clear g5
   simp only [add_none] at k0 k1 k2 k3 k4 k5
   clear hbd
   go_enter Try.func30, Try.ntmps30
   go_wp2_with (first | (go_at_call 30; refine (HIH.out ks[0] A5 c5 tz l _ (by omega) hwk0 (by omega) htz l5 HG5.out (by repeat (first | exact HP.out | apply PX.alloc | apply PX.drewN | apply PX.drew))).mono ?_; rintro e w2 ⟨rfl, hp_, hk_⟩; have HP2 := Lib.hid hp_; have HK2 := Lib.hid hk_; clear hp_ hk_) | (go_at_call 37; refine (match_add g (bld ks[0] tz l).2 st ⟨1, zW, ((bld ks[0] tz l).1 : Int), (tz : Int)⟩ w0 _ (by repeat (first | exact HP2.out | apply PX.alloc | apply PX.drewN | apply PX.drew)) (by have := HBL.out; omega)).mono ?_; rintro e w3 ⟨rfl, hp_, hk_⟩; have HP3 := Lib.hid hp_; have HK3 := Lib.hid hk_; clear hp_ hk_))
   go_ret
   exact ⟨rfl, HP3.out, HKB.out.trans (HK2.out.trans HK3.out)⟩
  ·-- 0
   rw [bld_0 _ _ _ _ hop]
   obtain ⟨h1, h7, h8, h2, h3, h4, h5, h6⟩ := hop
   have e1 : (op == 1) = false := by simpa using h1
   have e7 : (op == 7) = false := by simpa using h7
   have e8 : (op == 8) = false := by simpa using h8
   have e2 : (op == 2) = false := by simpa using h2
   have e3 : (op == 3) = false := by simpa using h3
   have e4 : (op == 4) = false := by simpa using h4
   have e5 : (op == 5) = false := by simpa using h5
   have e6 : (op == 6) = false := by simpa using h6
   go_enter Try.func30, Try.ntmps30
   go_wp2
   go_ret
   exact ⟨rfl, (by repeat (first | exact HP.out | apply PX.alloc | apply PX.drewN | apply PX.drew)), HKB.out⟩
end Go.Proofs.Ythlffghlkggimaa.Pr
