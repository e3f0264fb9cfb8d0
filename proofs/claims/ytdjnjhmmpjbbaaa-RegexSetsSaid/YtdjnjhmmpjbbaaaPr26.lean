/- The machine's side, written by a patched print (wip/tools): each theorem says that a call of the Go function comes to what the Lean function beside it computes, where the tables are laid (TB). -/
import Derived.Test.YtdjnjhmmpjbbaaaPr0
namespace Go.Proofs.Ytdjnjhmmpjbbaaa.Pr
open Go.RowKit Go.Proofs.YtdjnjhmmpjbbaaaW.PrintWords Go.Proofs.YtdjnjhmmpjbbaaaW.PrintLast Go.Proofs.YtdjnjhmmpjbbaaaW.PrintMore
attribute [local go_sem] fld39_0 fld39_1 fld39_2 fld50_0 fld50_1 fld50_2 fld50_3 fld50_4 fld54_0 fld54_1 fld54_2 fld54_3 fld54_4 fld9000_0 fld9000_1 fld9000_2 fld9000_3 fld9000_4 binOp_string_gtr2 binOp_string_leq2 binOp_string_geq2 max2_int min2_int max_two min_two max_three min_three max_four min_four   -- for this text's walks alone
set_option linter.unusedVariables false
set_option linter.unusedSimpArgs false

/-! ### scriberef09_Words: function 21 -/
mutual
def scriberef09_Words.l0 : Nat → ByteArray → List Bool → Int → Option (ByteArray)
 | 0, _, _, _ => none
 | k + 1, x0, x3, x4 => if x4 < (x0.size : Int) then (if 0 ≤ x4 then (if 0 ≤ (bt x0 x4) then (if (bt x0 x4) < (x3.length : Int) then (scriberef09_Words.l0 k x0 (x3.set ((bt x0 x4) : Int).toNat true) (wrap64 (x4 + 1))) else (none)) else (none)) else (none)) else (scriberef09_Words.l1 k x3 (⟨#[]⟩ : ByteArray) 0)
def scriberef09_Words.l1 : Nat → List Bool → ByteArray → Int → Option (ByteArray)
 | 0, _, _, _ => none
 | k + 1, x3, x5, x6 => if x6 < 4 then (scriberef09_Words.l2 k x3 x5 x6 60) else (some x5)
def scriberef09_Words.l2 : Nat → List Bool → ByteArray → Int → Int → Option (ByteArray)
 | 0, _, _, _, _ => none
 | k + 1, x3, x5, x6, x7 => if x7 ≥ 0 then (scriberef09_Words.l3 k x3 x5 x6 x7 0 3) else (scriberef09_Words.l1 k x3 x5 (wrap64 (x6 + 1)))
def scriberef09_Words.l3 : Nat → List Bool → ByteArray → Int → Int → Int → Int → Option (ByteArray)
 | 0, _, _, _, _, _, _ => none
 | k + 1, x3, x5, x6, x7, x8, x9 => if x9 ≥ 0 then (if 0 ≤ (wrap64 ((wrap64 ((wrap64 (64 * x6)) + x7)) + x9)) then (if (wrap64 ((wrap64 ((wrap64 (64 * x6)) + x7)) + x9)) < (x3.length : Int) then (if rdOf false x3 (wrap64 ((wrap64 ((wrap64 (64 * x6)) + x7)) + x9)) = true then (scriberef09_Words.l3 k x3 x5 x6 x7 (wrap64 ((wrap64 (2 * x8)) + 1)) (wrap64 (x9 - 1))) else (scriberef09_Words.l3 k x3 x5 x6 x7 (wrap64 (2 * x8)) (wrap64 (x9 - 1)))) else (none)) else (none)) else (if 0 ≤ x8 then (if x8 ≤ (wrap64 (x8 + 1)) then (if (wrap64 (x8 + 1)) ≤ 16 then (if x5.size + ((⟨#[48, 49, 50, 51, 52, 53, 54, 55, 56, 57, 97, 98, 99, 100, 101, 102]⟩ : ByteArray).extract (x8 : Int).toNat ((wrap64 (x8 + 1)) : Int).toNat).size ≤ 9223372036854775807 then (scriberef09_Words.l2 k x3 (x5 ++ ((⟨#[48, 49, 50, 51, 52, 53, 54, 55, 56, 57, 97, 98, 99, 100, 101, 102]⟩ : ByteArray).extract (x8 : Int).toNat ((wrap64 (x8 + 1)) : Int).toNat)) x6 (wrap64 (x7 - 4))) else (none)) else (none)) else (none)) else (none))
end
def scriberef09_Words.f (k : Nat) (a0 : ByteArray) : Option (ByteArray) := scriberef09_Words.l0 k a0 (List.replicate 256 false) 0
theorem scriberef09_Words.mono_l : ∀ k, (∀ y0 y1 y2, LeO (scriberef09_Words.l0 k y0 y1 y2) (scriberef09_Words.l0 (k + 1) y0 y1 y2)) ∧ (∀ y0 y1 y2, LeO (scriberef09_Words.l1 k y0 y1 y2) (scriberef09_Words.l1 (k + 1) y0 y1 y2)) ∧ (∀ y0 y1 y2 y3, LeO (scriberef09_Words.l2 k y0 y1 y2 y3) (scriberef09_Words.l2 (k + 1) y0 y1 y2 y3)) ∧ (∀ y0 y1 y2 y3 y4 y5, LeO (scriberef09_Words.l3 k y0 y1 y2 y3 y4 y5) (scriberef09_Words.l3 (k + 1) y0 y1 y2 y3 y4 y5))
 | 0 => ⟨fun _ _ _ r h => by simp [scriberef09_Words.l0] at h, fun _ _ _ r h => by simp [scriberef09_Words.l1] at h, fun _ _ _ _ r h => by simp [scriberef09_Words.l2] at h, fun _ _ _ _ _ _ r h => by simp [scriberef09_Words.l3] at h⟩
 | k + 1 => by
  obtain ⟨ih0, ih1, ih2, ih3⟩ := scriberef09_Words.mono_l k
  refine ⟨?_, ?_, ?_, ?_⟩
  ·intro y0 y1 y2
   unfold scriberef09_Words.l0
   repeat' first
   | (with_reducible exact ih0 _ _ _)
   | (with_reducible exact ih1 _ _ _)
   | (with_reducible exact ih2 _ _ _ _)
   | (with_reducible exact ih3 _ _ _ _ _ _)
   | (with_reducible exact LeO.refl _)
   | (with_reducible exact LeO.none _)
   | (with_reducible refine LeO.ite ?_ ?_)
   | (with_reducible refine LeO.bind ?_ (fun _ => ?_))
   | exact ih0 _ _ _
   | exact ih1 _ _ _
   | exact ih2 _ _ _ _
   | exact ih3 _ _ _ _ _ _
   | exact LeO.none _
   | refine LeO.ite ?_ ?_
   | refine LeO.bind ?_ (fun _ => ?_)
  ·intro y0 y1 y2
   unfold scriberef09_Words.l1
   repeat' first
   | (with_reducible exact ih0 _ _ _)
   | (with_reducible exact ih1 _ _ _)
   | (with_reducible exact ih2 _ _ _ _)
   | (with_reducible exact ih3 _ _ _ _ _ _)
   | (with_reducible exact LeO.refl _)
   | (with_reducible exact LeO.none _)
   | (with_reducible refine LeO.ite ?_ ?_)
   | (with_reducible refine LeO.bind ?_ (fun _ => ?_))
   | exact ih0 _ _ _
   | exact ih1 _ _ _
   | exact ih2 _ _ _ _
   | exact ih3 _ _ _ _ _ _
   | exact LeO.none _
   | refine LeO.ite ?_ ?_
   | refine LeO.bind ?_ (fun _ => ?_)
  ·intro y0 y1 y2 y3
   unfold scriberef09_Words.l2
   repeat' first
   | (with_reducible exact ih0 _ _ _)
   | (with_reducible exact ih1 _ _ _)
   | (with_reducible exact ih2 _ _ _ _)
   | (with_reducible exact ih3 _ _ _ _ _ _)
   | (with_reducible exact LeO.refl _)
   | (with_reducible exact LeO.none _)
   | (with_reducible refine LeO.ite ?_ ?_)
   | (with_reducible refine LeO.bind ?_ (fun _ => ?_))
   | exact ih0 _ _ _
   | exact ih1 _ _ _
   | exact ih2 _ _ _ _
   | exact ih3 _ _ _ _ _ _
   | exact LeO.none _
   | refine LeO.ite ?_ ?_
   | refine LeO.bind ?_ (fun _ => ?_)
  ·intro y0 y1 y2 y3 y4 y5
   unfold scriberef09_Words.l3
   repeat' first
   | (with_reducible exact ih0 _ _ _)
   | (with_reducible exact ih1 _ _ _)
   | (with_reducible exact ih2 _ _ _ _)
   | (with_reducible exact ih3 _ _ _ _ _ _)
   | (with_reducible exact LeO.refl _)
   | (with_reducible exact LeO.none _)
   | (with_reducible refine LeO.ite ?_ ?_)
   | (with_reducible refine LeO.bind ?_ (fun _ => ?_))
   | exact ih0 _ _ _
   | exact ih1 _ _ _
   | exact ih2 _ _ _ _
   | exact ih3 _ _ _ _ _ _
   | exact LeO.none _
   | refine LeO.ite ?_ ?_
   | refine LeO.bind ?_ (fun _ => ?_)
theorem scriberef09_Words.mono : ∀ a0 k, LeO (scriberef09_Words.f k a0) (scriberef09_Words.f (k + 1) a0) := by
 intro a0 k
 obtain ⟨ih0, ih1, ih2, ih3⟩ := scriberef09_Words.mono_l k
 unfold scriberef09_Words.f
 repeat' first
   | (with_reducible exact ih0 _ _ _)
   | (with_reducible exact ih1 _ _ _)
   | (with_reducible exact ih2 _ _ _ _)
   | (with_reducible exact ih3 _ _ _ _ _ _)
   | (with_reducible exact LeO.refl _)
   | (with_reducible exact LeO.none _)
   | (with_reducible refine LeO.ite ?_ ?_)
   | (with_reducible refine LeO.bind ?_ (fun _ => ?_))
   | exact ih0 _ _ _
   | exact ih1 _ _ _
   | exact ih2 _ _ _ _
   | exact ih3 _ _ _ _ _ _
   | exact LeO.none _
   | refine LeO.ite ?_ ?_
   | refine LeO.bind ?_ (fun _ => ?_)
set_option maxHeartbeats 8000000 in
set_option maxRecDepth 100000 in
theorem scriberef09_Words.calls (k : Nat) (a0 : ByteArray) (r : ByteArray) (w : World) (hT : TB w) (h : scriberef09_Words.f k a0 = some r) :
  Calls Try.prog 21 #[.string a0] w fun e w' => e = .returned (.string r) ∧ Below w.heap.size w w' := by
 have HB := Aside0.mk (Below.refl w.heap.size w)
 have H : (scriberef09_Words.l0 k a0 (List.replicate 256 false) 0) = some r := h
 clear h
 obtain ⟨y771, hy771⟩ : ∃ y_ : List Bool, y_ = (List.replicate 256 false) := ⟨_, rfl⟩
 replace H : (scriberef09_Words.l0 k a0 y771 0) = some r := by first | (rw [hy771]; with_reducible exact H) | (have H2_ := (Option.bind_some _ _).symm.trans H; rw [hy771]; with_reducible exact H2_) | (have H2_ := (Option.bind_some _ _).symm.trans H; with_reducible exact H2_) | with_reducible exact H | (rw [hy771]; exact H) | exact H
 have Ny771 := Aside0.mk hy771
 clear hy771
 have H' := Aside0.mk H
 clear H
 go_enter Try.func21, Try.ntmps21
 go_wp2_with (first | ((with_reducible refine gate_dst (N := 10) rfl ?_); refine Kd.R_make Kd.bool _ 4 rfl (N := 10) rfl 61 _ _ rfl 256 rfl rfl Try.underlying61 (.bool false) 1 info4 rfl (by decide) (by omega) false (ok := fun _ => True) (okp := fun _ => True) rfl (fun _ hk => hk) trivial (by omega) (by omega) (Below.refl _ _) (Nat.le_refl _) ?_; intro v772 w2 ho3 hb hg_ hnew_; clear hg_ hnew_; (first | rw [← Ny771.out] at ho3 | (simp only [Int.reduceToNat] at ho3; rw [← Ny771.out] at ho3)); have n0_ := Aside0.mk (Kd.R_lower ho3 (below_size (by repeat (first | (with_reducible first | exact HB.out | apply below_alloc | apply pw_below_drewN | apply below_drew1) | exact HB.out)))); have n1_ := Aside0.mk (below_step (by repeat (first | (with_reducible first | exact HB.out | apply below_alloc | apply pw_below_drewN | apply below_drew1) | exact HB.out)) hb); clear HB; have HO773 := n0_; have HB := n1_; clear n0_ n1_; clear hb ho3))
 go_loopg [4] k (fun kq v4 w' => ∃ (x3_1 : List Bool) (x4_1 : Int), v4 = .int .i64 x4_1 ∧ Aside0 (scriberef09_Words.l0 kq a0 x3_1 x4_1 = some r) ∧ Aside0 (kq ≤ k) ∧ Aside0 (Kd.R Kd.bool 4 w' w.heap.size (fun _ => True) v772 x3_1) ∧ Aside0 (Below w.heap.size w w'))
 case atStart => exact ⟨(y771), (0), (by first | rfl | (simp; done) | (simp [*]; done) | (simp; unfold wrap64; omega)), H', ⟨Nat.le_refl _⟩, ⟨by (with_reducible repeat (first | apply Kd.R_alloc | apply Kd.R_drewN | apply Kd.R_drew)); exact HO773.out⟩, ⟨by repeat (first | (with_reducible first | exact HB.out | apply below_alloc | apply pw_below_drewN | apply below_drew1) | exact HB.out)⟩⟩
 case round =>
  clear H'
  try clear c2
  try clear p2
  obtain ⟨x3_1, x4_1, rfl, HA, HK1, HO_3, HB⟩ := hrel
  cases gk with
  | zero => exact absurd HA.out (by simp [scriberef09_Words.l0])
  | succ k1 =>
   have H := HA.out
   clear HA
   simp only [scriberef09_Words.l0] at H
   by_cases c4 : x4_1 < (a0.size : Int)
   ·rw [if_pos c4] at H
    have c4b0 : decide (x4_1 < (a0.size : Int)) = true := decide_eq_true c4
    clear c4
    by_cases c5 : 0 ≤ x4_1
    ·rw [if_pos c5] at H
     have c5b0 : decide (0 ≤ x4_1) = true := decide_eq_true c5
     clear c5
     by_cases c7 : 0 ≤ (bt a0 x4_1)
     ·rw [if_pos c7] at H
      have c7b0 : decide (0 ≤ (bt a0 x4_1)) = true := decide_eq_true c7
      clear c7
      by_cases c8 : (bt a0 x4_1) < (x3_1.length : Int)
      ·rw [if_pos c8] at H
       have c8b0 : decide ((bt a0 x4_1) < (x3_1.length : Int)) = true := decide_eq_true c8
       clear c8
       obtain ⟨y774, hy774⟩ : ∃ y_ : List Bool, y_ = (x3_1.set ((bt a0 x4_1) : Int).toNat true) := ⟨_, rfl⟩
       replace H : (scriberef09_Words.l0 k1 a0 y774 (wrap64 (x4_1 + 1))) = some r := by first | (rw [hy774]; with_reducible exact H) | (have H2_ := (Option.bind_some _ _).symm.trans H; rw [hy774]; with_reducible exact H2_) | (have H2_ := (Option.bind_some _ _).symm.trans H; with_reducible exact H2_) | with_reducible exact H | (rw [hy774]; exact H) | exact H
       have Ny774 := Aside0.mk hy774
       clear hy774
       have H' := Aside0.mk H
       clear H
       have p6 : 0 ≤ (x4_1 : Int) := of_decide_eq_true (by first | (with_reducible assumption) | assumption)
       have q6 : x4_1 < (a0.size : Int) := of_decide_eq_true (by first | (with_reducible assumption) | assumption)
       have hx6 := bt_at a0 x4_1
       replace p6 := eq_true p6
       replace q6 := eq_true q6
       have p9 : 0 ≤ ((bt a0 x4_1) : Int) := of_decide_eq_true (by first | (with_reducible assumption) | assumption)
       have q9 : ((bt a0 x4_1) : Int) < ((x3_1.length : Int) : Int) := of_decide_eq_true (by first | (with_reducible assumption) | assumption)
       obtain ⟨go9, co9, eo9, gb9, gl9, cl9, HG9⟩ := Kd.R_form HO_3.out (by omega)
       (first | cases eo9 | (injection eo9 with ea_ en_ ec_; (first | subst ea_ | (injection ea_ with ea_; subst ea_)); subst ec_; clear en_))
       have GB9 := Aside0.mk gb9
       have GG9 := Aside0.mk HG9
       clear gb9 gl9 HG9
       obtain ⟨hx9_0, hf9_0⟩ := Kd.R_celln false HO_3.out ((bt a0 x4_1) : Int) p9 q9
       replace p9 := eq_true p9
       replace q9 := eq_true q9
       have HP10 := Kd.R_putg HO_3.out ((bt a0 x4_1) : Int) true
       go_wp2_with (first | ((with_reducible refine gate_store (t := 4) (p := 21) rfl ?_); refine store_event (t := 4) (p := 21) (v := ?vo_w11) (w1 := (wr.setCell ⟨go9, ((bt a0 x4_1) : Int).toNat, none⟩ (.bool true))) ?hg ?ho ?hn ?hr ?_; (case ho => rfl); (case hg => rfl); (case hn => rfl); (case hr => first | (go_simp; done) | (go_simp; rfl)); intro w11 hw; have hg : wr.grownBy w11 (some go9) := (by rw [hw]; exact HP10.2); have hp_ : Kd.R Kd.bool 4 w11 w.heap.size (fun _ => True) (.slice (some ⟨go9, 0, none⟩) x3_1.length co9) y774 := (by rw [hw, Ny774.out]; exact HP10.1); clear HP10; have n0_ := Aside0.mk (hp_); have n1_ := Aside0.mk ((by rw [hw]; exact below_set (HB.out) GB9.out : Below w.heap.size w w11)); clear HO_3; clear HB; have HO_3 := n0_; have HB := n1_; clear n0_ n1_; clear hg hw hp_))
       go_roundg k1
       case measure => have := HK1.out; omega
       case rel => exact ⟨(y774), (wrap64 (x4_1 + 1)), (by first | rfl | (simp; done) | (simp [*]; done) | (simp; unfold wrap64; omega)), H', ⟨by have := HK1.out; omega⟩, ⟨by (with_reducible repeat (first | apply Kd.R_alloc | apply Kd.R_drewN | apply Kd.R_drew)); exact HO_3.out⟩, ⟨by repeat (first | (with_reducible first | exact HB.out | apply below_alloc | apply pw_below_drewN | apply below_drew1) | exact HB.out)⟩⟩
      ·rw [if_neg c8] at H
       exact absurd H (by simp)
     ·rw [if_neg c7] at H
      exact absurd H (by simp)
    ·rw [if_neg c5] at H
     exact absurd H (by simp)
   ·rw [if_neg c4] at H
    have c4b0 : decide (x4_1 < (a0.size : Int)) = false := decide_eq_false c4
    clear c4
    have H' := Aside0.mk H
    clear H
    go_wp2
    go_loopg [5, 6] k1 (fun kq v5 v6 w' => ∃ (x5_2 : ByteArray) (x6_2 : Int), v5 = .string x5_2 ∧ v6 = .int .i64 x6_2 ∧ Aside0 (scriberef09_Words.l1 kq x3_1 x5_2 x6_2 = some r) ∧ Aside0 (kq ≤ k1) ∧ Aside0 (Kd.R Kd.bool 4 w' w.heap.size (fun _ => True) v772 x3_1) ∧ Aside0 (Below w.heap.size w w'))
    case atStart => exact ⟨((⟨#[]⟩ : ByteArray)), (0), (by first | rfl | (simp; done) | (simp [*]; done) | (simp; unfold wrap64; omega)), (by first | rfl | (simp; done) | (simp [*]; done) | (simp; unfold wrap64; omega)), H', ⟨Nat.le_refl _⟩, ⟨by (with_reducible repeat (first | apply Kd.R_alloc | apply Kd.R_drewN | apply Kd.R_drew)); exact HO_3.out⟩, ⟨by repeat (first | (with_reducible first | exact HB.out | apply below_alloc | apply pw_below_drewN | apply below_drew1) | exact HB.out)⟩⟩
    case round =>
     clear H'
     try clear c2
     try clear p2
     try clear c4
     try clear c4b0
     try clear c5
     try clear c5b0
     try clear p6
     try clear q6
     try clear hx6
     try clear c7
     try clear c7b0
     try clear c8
     try clear c8b0
     try clear p9
     try clear q9
     try clear hx9
     try clear hf9
     try clear hx9_0
     try clear p2
     try clear p6
     try clear p9
     try clear q6
     try clear q9
     obtain ⟨x5_2, x6_2, rfl, rfl, HA, HK2, HO_3, HB⟩ := hrel
     cases gk with
     | zero => exact absurd HA.out (by simp [scriberef09_Words.l1])
     | succ k2 =>
      have H := HA.out
      clear HA
      simp only [scriberef09_Words.l1] at H
      by_cases c12 : x6_2 < 4
      ·rw [if_pos c12] at H
       have c12b0 : decide (x6_2 < 4) = true := decide_eq_true c12
       clear c12
       have H' := Aside0.mk H
       clear H
       go_wp2
       go_loopg [5, 7] k2 (fun kq v5 v7 w' => ∃ (x5_3 : ByteArray) (x7_3 : Int), v5 = .string x5_3 ∧ v7 = .int .i64 x7_3 ∧ Aside0 (scriberef09_Words.l2 kq x3_1 x5_3 x6_2 x7_3 = some r) ∧ Aside0 (kq ≤ k2) ∧ Aside0 (Kd.R Kd.bool 4 w' w.heap.size (fun _ => True) v772 x3_1) ∧ Aside0 (Below w.heap.size w w'))
       case atStart => exact ⟨(x5_2), (60), (by first | rfl | (simp; done) | (simp [*]; done) | (simp; unfold wrap64; omega)), (by first | rfl | (simp; done) | (simp [*]; done) | (simp; unfold wrap64; omega)), H', ⟨Nat.le_refl _⟩, ⟨by (with_reducible repeat (first | apply Kd.R_alloc | apply Kd.R_drewN | apply Kd.R_drew)); exact HO_3.out⟩, ⟨by repeat (first | (with_reducible first | exact HB.out | apply below_alloc | apply pw_below_drewN | apply below_drew1) | exact HB.out)⟩⟩
       case round =>
        clear H'
        try clear c1
        try clear c2
        try clear p2
        try clear c4
        try clear c4b0
        try clear c5
        try clear c5b0
        try clear p6
        try clear q6
        try clear hx6
        try clear c7
        try clear c7b0
        try clear c8
        try clear c8b0
        try clear p9
        try clear q9
        try clear hx9
        try clear hf9
        try clear c12
        try clear c12b0
        try clear hx9_0
        try clear p2
        try clear p6
        try clear p9
        try clear q6
        try clear q9
        obtain ⟨x5_3, x7_3, rfl, rfl, HA, HK3, HO_3, HB⟩ := hrel
        cases gk with
        | zero => exact absurd HA.out (by simp [scriberef09_Words.l2])
        | succ k3 =>
         have H := HA.out
         clear HA
         simp only [scriberef09_Words.l2] at H
         by_cases c13 : x7_3 ≥ 0
         ·rw [if_pos c13] at H
          have c13b0 : decide (0 ≤ x7_3) = true := decide_eq_true c13
          clear c13
          have H' := Aside0.mk H
          clear H
          go_wp2
          go_loopg [8, 9] k3 (fun kq v8 v9 w' => ∃ (x8_4 : Int) (x9_4 : Int), v8 = .int .i64 x8_4 ∧ v9 = .int .i64 x9_4 ∧ Aside0 (scriberef09_Words.l3 kq x3_1 x5_3 x6_2 x7_3 x8_4 x9_4 = some r) ∧ Aside0 (kq ≤ k3) ∧ Aside0 (Kd.R Kd.bool 4 w' w.heap.size (fun _ => True) v772 x3_1) ∧ Aside0 (Below w.heap.size w w'))
          case atStart => exact ⟨(0), (3), (by first | rfl | (simp; done) | (simp [*]; done) | (simp; unfold wrap64; omega)), (by first | rfl | (simp; done) | (simp [*]; done) | (simp; unfold wrap64; omega)), H', ⟨Nat.le_refl _⟩, ⟨by (with_reducible repeat (first | apply Kd.R_alloc | apply Kd.R_drewN | apply Kd.R_drew)); exact HO_3.out⟩, ⟨by repeat (first | (with_reducible first | exact HB.out | apply below_alloc | apply pw_below_drewN | apply below_drew1) | exact HB.out)⟩⟩
          case round =>
           clear H'
           try clear c1
           try clear c2
           try clear p2
           try clear c4
           try clear c4b0
           try clear c5
           try clear c5b0
           try clear p6
           try clear q6
           try clear hx6
           try clear c7
           try clear c7b0
           try clear c8
           try clear c8b0
           try clear p9
           try clear q9
           try clear hx9
           try clear hf9
           try clear c12
           try clear c12b0
           try clear c13
           try clear c13b0
           try clear hx9_0
           try clear p2
           try clear p6
           try clear p9
           try clear q6
           try clear q9
           obtain ⟨x8_4, x9_4, rfl, rfl, HA, HK4, HO_3, HB⟩ := hrel
           cases gk with
           | zero => exact absurd HA.out (by simp [scriberef09_Words.l3])
           | succ k4 =>
            have H := HA.out
            clear HA
            simp only [scriberef09_Words.l3] at H
            by_cases c14 : x9_4 ≥ 0
            ·rw [if_pos c14] at H
             have c14b0 : decide (0 ≤ x9_4) = true := decide_eq_true c14
             clear c14
             obtain ⟨ji15, hji15⟩ : ∃ j_ : Int, (wrap64 ((wrap64 ((wrap64 (64 * x6_2)) + x7_3)) + x9_4)) = j_ := ⟨_, rfl⟩
             replace H : (if 0 ≤ (ji15) then (if (ji15) < (x3_1.length : Int) then (if rdOf false x3_1 (ji15) = true then (scriberef09_Words.l3 k4 x3_1 x5_3 x6_2 x7_3 (wrap64 ((wrap64 (2 * x8_4)) + 1)) (wrap64 (x9_4 - 1))) else (scriberef09_Words.l3 k4 x3_1 x5_3 x6_2 x7_3 (wrap64 (2 * x8_4)) (wrap64 (x9_4 - 1)))) else (none)) else (none)) = some r := by first | (rw [hji15] at H; exact H) | (simp only [hji15] at H ⊢; exact H)
             have hji15w : (IntKind.i64.wrap ((wrap64 ((wrap64 (64 * x6_2)) + x7_3)) + x9_4)) = ji15 := (i64_w _).trans hji15
             by_cases c16 : 0 ≤ (ji15)
             ·rw [if_pos c16] at H
              have c16b0 : decide (0 ≤ (ji15)) = true := decide_eq_true c16
              clear c16
              by_cases c17 : (ji15) < (x3_1.length : Int)
              ·rw [if_pos c17] at H
               have c17b0 : decide ((ji15) < (x3_1.length : Int)) = true := decide_eq_true c17
               clear c17
               obtain ⟨bq18, hbq18⟩ : ∃ b_ : Bool, b_ = (rdOf false x3_1 (ji15)) := ⟨_, rfl⟩
               replace H : (if bq18 = true then (scriberef09_Words.l3 k4 x3_1 x5_3 x6_2 x7_3 (wrap64 ((wrap64 (2 * x8_4)) + 1)) (wrap64 (x9_4 - 1))) else (scriberef09_Words.l3 k4 x3_1 x5_3 x6_2 x7_3 (wrap64 (2 * x8_4)) (wrap64 (x9_4 - 1)))) = some r := by rw [← hbq18] at H; exact H
               have Nbq18 := Aside0.mk hbq18
               clear hbq18
               by_cases c19 : bq18 = true
               ·subst c19
                have H1 : (scriberef09_Words.l3 k4 x3_1 x5_3 x6_2 x7_3 (wrap64 ((wrap64 (2 * x8_4)) + 1)) (wrap64 (x9_4 - 1))) = some r := by rw [if_pos rfl] at H; exact H
                clear H
                have H := H1
                clear H1
                have H' := Aside0.mk H
                clear H
                obtain ⟨Ao20, co20, eo20⟩ := Kd.R_slice HO_3.out
                subst eo20
                have p775 : 0 ≤ ((ji15) : Int) := of_decide_eq_true (by first | (with_reducible assumption) | assumption)
                have q775 : (ji15) < (x3_1.length : Int) := of_decide_eq_true (by first | (with_reducible assumption) | assumption)
                obtain ⟨ad775, e775, hx775_0⟩ := Kd.at_bool (Kd.R_reads' HO_3.out).2.2 (ji15) p775 q775
                (try rw [← Nbq18.out] at hx775_0)
                cases e775
                replace p775 := eq_true p775
                replace q775 := eq_true q775
                go_wp2
                go_roundg k4
                case measure => have := HK1.out; have := HK2.out; have := HK3.out; have := HK4.out; omega
                case rel => exact ⟨(wrap64 ((wrap64 (2 * x8_4)) + 1)), (wrap64 (x9_4 - 1)), (by first | rfl | (simp; done) | (simp [*]; done) | (simp; unfold wrap64; omega)), (by first | rfl | (simp; done) | (simp [*]; done) | (simp; unfold wrap64; omega)), H', ⟨by have := HK1.out; have := HK2.out; have := HK3.out; have := HK4.out; omega⟩, ⟨by (with_reducible repeat (first | apply Kd.R_alloc | apply Kd.R_drewN | apply Kd.R_drew)); exact HO_3.out⟩, ⟨by repeat (first | (with_reducible first | exact HB.out | apply below_alloc | apply pw_below_drewN | apply below_drew1) | exact HB.out)⟩⟩
               ·replace c19 := Bool.eq_false_iff.mpr c19
                subst c19
                have H1 : (scriberef09_Words.l3 k4 x3_1 x5_3 x6_2 x7_3 (wrap64 (2 * x8_4)) (wrap64 (x9_4 - 1))) = some r := by rw [if_neg (show ¬ (false = true) by decide)] at H; exact H
                clear H
                have H := H1
                clear H1
                have H' := Aside0.mk H
                clear H
                obtain ⟨Ao21, co21, eo21⟩ := Kd.R_slice HO_3.out
                subst eo21
                have p775 : 0 ≤ ((ji15) : Int) := of_decide_eq_true (by first | (with_reducible assumption) | assumption)
                have q775 : (ji15) < (x3_1.length : Int) := of_decide_eq_true (by first | (with_reducible assumption) | assumption)
                obtain ⟨ad775, e775, hx775_0⟩ := Kd.at_bool (Kd.R_reads' HO_3.out).2.2 (ji15) p775 q775
                (try rw [← Nbq18.out] at hx775_0)
                cases e775
                replace p775 := eq_true p775
                replace q775 := eq_true q775
                go_wp2
                go_roundg k4
                case measure => have := HK1.out; have := HK2.out; have := HK3.out; have := HK4.out; omega
                case rel => exact ⟨(wrap64 (2 * x8_4)), (wrap64 (x9_4 - 1)), (by first | rfl | (simp; done) | (simp [*]; done) | (simp; unfold wrap64; omega)), (by first | rfl | (simp; done) | (simp [*]; done) | (simp; unfold wrap64; omega)), H', ⟨by have := HK1.out; have := HK2.out; have := HK3.out; have := HK4.out; omega⟩, ⟨by (with_reducible repeat (first | apply Kd.R_alloc | apply Kd.R_drewN | apply Kd.R_drew)); exact HO_3.out⟩, ⟨by repeat (first | (with_reducible first | exact HB.out | apply below_alloc | apply pw_below_drewN | apply below_drew1) | exact HB.out)⟩⟩
              ·rw [if_neg c17] at H
               exact absurd H (by simp)
             ·rw [if_neg c16] at H
              exact absurd H (by simp)
            ·rw [if_neg c14] at H
             have c14b0 : decide (0 ≤ x9_4) = false := decide_eq_false c14
             clear c14
             by_cases c22 : 0 ≤ x8_4
             ·rw [if_pos c22] at H
              have c22b0 := eq_true c22
              have c22b1 : decide (0 ≤ x8_4) = true := decide_eq_true c22
              clear c22
              by_cases c23 : x8_4 ≤ (wrap64 (x8_4 + 1))
              ·rw [if_pos c23] at H
               have c23b0 := eq_true c23
               have c23b1 : decide (x8_4 ≤ (wrap64 (x8_4 + 1))) = true := decide_eq_true c23
               by_cases c24 : (wrap64 (x8_4 + 1)) ≤ 16
               ·rw [if_pos c24] at H
                have c24b0 := eq_true c24
                have c24b1 : decide ((wrap64 (x8_4 + 1)) ≤ 16) = true := decide_eq_true c24
                by_cases c25 : x5_3.size + ((⟨#[48, 49, 50, 51, 52, 53, 54, 55, 56, 57, 97, 98, 99, 100, 101, 102]⟩ : ByteArray).extract (x8_4 : Int).toNat ((wrap64 (x8_4 + 1)) : Int).toNat).size ≤ 9223372036854775807
                ·rw [if_pos c25] at H
                 have c25b0 := eq_true c25
                 have c25b1 : decide (x5_3.size + ((⟨#[48, 49, 50, 51, 52, 53, 54, 55, 56, 57, 97, 98, 99, 100, 101, 102]⟩ : ByteArray).extract (x8_4 : Int).toNat ((wrap64 (x8_4 + 1)) : Int).toNat).size ≤ 9223372036854775807) = true := decide_eq_true c25
                 try have c25b2 : (9223372036854775807 < x5_3.size + ((⟨#[48, 49, 50, 51, 52, 53, 54, 55, 56, 57, 97, 98, 99, 100, 101, 102]⟩ : ByteArray).extract (x8_4 : Int).toNat ((wrap64 (x8_4 + 1)) : Int).toNat).size) = False := eq_false (Nat.not_lt.2 c25)
                 try (have c25b3 := c25b2; simp only [ByteArray.size_append', ba_size_mk, List.size_toArray, List.length_cons, List.length_nil, Nat.zero_add, Nat.reduceAdd, ByteArray.size_extract, Nat.min_self, Nat.sub_zero] at c25b3)
                 have H' := Aside0.mk H
                 clear H
                 go_wp2
                 go_roundg k4
                 case measure => have := HK1.out; have := HK2.out; have := HK3.out; have := HK4.out; omega
                 case rel => exact ⟨(x5_3 ++ ((⟨#[48, 49, 50, 51, 52, 53, 54, 55, 56, 57, 97, 98, 99, 100, 101, 102]⟩ : ByteArray).extract (x8_4 : Int).toNat ((wrap64 (x8_4 + 1)) : Int).toNat)), (wrap64 (x7_3 - 4)), (by first | rfl | (simp; done) | (simp [*]; done) | (simp; unfold wrap64; omega)), (by first | rfl | (simp; done) | (simp [*]; done) | (simp; unfold wrap64; omega)), H', ⟨by have := HK1.out; have := HK2.out; have := HK3.out; have := HK4.out; omega⟩, ⟨by (with_reducible repeat (first | apply Kd.R_alloc | apply Kd.R_drewN | apply Kd.R_drew)); exact HO_3.out⟩, ⟨by repeat (first | (with_reducible first | exact HB.out | apply below_alloc | apply pw_below_drewN | apply below_drew1) | exact HB.out)⟩⟩
                ·rw [if_neg c25] at H
                 exact absurd H (by simp)
               ·rw [if_neg c24] at H
                exact absurd H (by simp)
              ·rw [if_neg c23] at H
               exact absurd H (by simp)
             ·rw [if_neg c22] at H
              exact absurd H (by simp)
         ·rw [if_neg c13] at H
          have c13b0 : decide (0 ≤ x7_3) = false := decide_eq_false c13
          clear c13
          have H' := Aside0.mk H
          clear H
          go_wp2
          go_roundg k3
          case measure => have := HK1.out; have := HK2.out; have := HK3.out; omega
          case rel => exact ⟨(x5_3), (wrap64 (x6_2 + 1)), (by first | rfl | (simp; done) | (simp [*]; done) | (simp; unfold wrap64; omega)), (by first | rfl | (simp; done) | (simp [*]; done) | (simp; unfold wrap64; omega)), H', ⟨by have := HK1.out; have := HK2.out; have := HK3.out; omega⟩, ⟨by (with_reducible repeat (first | apply Kd.R_alloc | apply Kd.R_drewN | apply Kd.R_drew)); exact HO_3.out⟩, ⟨by repeat (first | (with_reducible first | exact HB.out | apply below_alloc | apply pw_below_drewN | apply below_drew1) | exact HB.out)⟩⟩
      ·rw [if_neg c12] at H
       have c12b0 : decide (x6_2 < 4) = false := decide_eq_false c12
       clear c12
       obtain rfl := Option.some.inj H
       go_wp2
       go_ret
       exact ⟨by first | rfl | (simp [errW_none, errW_some] <;> rfl) | (simp [errW_none, errW_some] <;> first | rfl | exact isEmpty_bne _) | (simp [*, errW_none, errW_some] <;> rfl), by repeat (first | (with_reducible first | exact HB.out | apply below_alloc | apply pw_below_drewN | apply below_drew1) | exact HB.out)⟩

end Go.Proofs.Ytdjnjhmmpjbbaaa.Pr
