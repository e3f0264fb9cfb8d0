/- letters, walked by hand: has each node's Op small letters alone? -/
import Derived.Test.YtgkojnpbgkglgaaDoorPuAsS
import Derived.RangeFuncBox
set_option linter.unusedVariables false
set_option linter.unusedSimpArgs false
namespace Go.Proofs.YtgkojnpbgkglgaaDoor.Pr
open Go Go.RowKit Go.Shelf Go.Proofs.YtgkojnpbgkglgaaDoorW.PrintWords Go.Proofs.YtgkojnpbgkglgaaDoorW.PrintLast Go.Proofs.YtgkojnpbgkglgaaDoorW.PrintMore
attribute [local go_sem] Oper.semAt_some

/-- small letters alone -/
def lowB (s : ByteArray) : Prop := ∀ q : Nat, q < s.size → 97 ≤ bt s (q : Int) ∧ bt s (q : Int) ≤ 122
def allLow (l : List (Int × ANode)) : Prop := ∀ x ∈ l, lowB x.2.f0
def noLow (l : List (Int × ANode)) : Prop := ∃ x ∈ l, ¬ lowB x.2.f0
def lowT (n : ANode) : Prop := allLow (allT 0 n)
/-- each node's Op is not too long -/
def okOp (n : ANode) : Prop := ∀ x ∈ allT 0 n, x.2.f0.size ≤ 1000000
theorem allKs_mem {d : Int} {l : List ANode} {k : ANode} (h : k ∈ l) {x : Int × ANode} (hx : x ∈ allT d k) : x ∈ allKs d l := by
  induction l with
  | nil => cases h
  | cons a r ih =>
    rw [allKs, List.mem_append]
    rcases List.mem_cons.1 h with rfl | h
    · exact .inl hx
    · exact .inr (ih h)
mutual
theorem allT_shift (d e : Int) : ∀ n : ANode, (allT d n).map (·.2) = (allT e n).map (·.2)
  | ⟨o, t, a, ks⟩ => by rw [allT, allT, List.map_cons, List.map_cons, allKs_shift (d + 1) (e + 1) ks]
theorem allKs_shift (d e : Int) : ∀ l : List ANode, (allKs d l).map (·.2) = (allKs e l).map (·.2)
  | [] => by rw [allKs, allKs]
  | k :: r => by rw [allKs, allKs, List.map_append, List.map_append, allT_shift d e k, allKs_shift d e r]
end
/-- what holds of all nodes of a tree holds of all nodes of its kids -/
theorem allT_kids {P : ANode → Prop} {n : ANode} (h : ∀ x ∈ allT 0 n, P x.2) : ∀ k ∈ n.f3, ∀ x ∈ allT 0 k, P x.2 := by
  intro k hk x hx
  have h1 : x.2 ∈ (allT 1 k).map (·.2) := by rw [allT_shift 1 0]; exact List.mem_map_of_mem hx
  obtain ⟨y, hy, he⟩ := List.mem_map.1 h1
  rw [← he]
  refine h y ?_
  rw [allT_eq]
  exact List.mem_cons_of_mem _ (allKs_mem hk hy)
theorem okOp_kids : ∀ n, okOp n → ∀ k ∈ n.f3, okOp k := fun n h => allT_kids (P := fun n => n.f0.size ≤ 1000000) h
instance (s : ByteArray) : Decidable (lowB s) := by unfold lowB; infer_instance
instance (n : ANode) : Decidable (lowT n) := by unfold lowT allLow; infer_instance
instance (n : ANode) : Decidable (okOp n) := by unfold okOp; infer_instance
def scribelaw12_letters.f (o t : ByteArray) (a : Int) (ks : List ANode) : Option Int := if sizeT ⟨o, t, a, ks⟩ ≤ 1000000000000 ∧ okOp ⟨o, t, a, ks⟩ then some (if lowT ⟨o, t, a, ks⟩ then 0 else -1) else none
def nodeCells (n : ANode) (A : Option Addr) (c : Nat) : Array Value := #[.string n.f0, .string n.f1, .int .i64 n.f2, .slice A n.f3.length c]
theorem ownFrom_blk {B : Nat} {cs : Array Value} {t : TypeId} (g : Nat) : OwnFrom B (fun (_ : Unit) W => W.heap[g]? = some (.cells cs t (0, 0))) := fun s X Y row hs hg hr => by
  refine (hg.block g (Array.getElem?_eq_some_iff.1 hs).1 (fun e => ?_)).trans hs
  obtain ⟨_, o, ho, hc⟩ := hr g e.symm
  rw [hs] at ho
  cases ho
  cases hc

set_option maxRecDepth 100000 in
set_option maxHeartbeats 4000000 in
theorem scribelaw12_letters.calls (a0_0 a0_1 : ByteArray) (a0_2 : Int) (A0_3 : Option Addr) (c0_3 : Nat) (l0_3 : List ANode) (r : Int) (w : World) (hr0_3 : Kd.C k26 w A0_3 l0_3.length l0_3) (hc0_3 : l0_3.length ≤ c0_3) (hT : TB w) (h : scribelaw12_letters.f a0_0 a0_1 a0_2 l0_3 = some r) :
    Calls Tryd.prog 13 #[.agg #[.string a0_0, .string a0_1, .int .i64 a0_2, .slice A0_3 l0_3.length c0_3]] w fun e w' => e = .returned (.int .i64 r) ∧ Below w.heap.size w w' := by
  unfold scribelaw12_letters.f at h
  split at h
  case isFalse => cases h
  rename_i hszo
  obtain ⟨hsz, hok⟩ := hszo
  have hr := Option.some.inj h
  clear h hT
  have hu := Tryd.underlying26
  refine (callsIn_wide (n := 9)).1 ?_
  refine callsIn_of_wp_marks Tryd.func13 rfl trivial ?_ rfl
  simp only [Tryd.ntmps13, List.size_toArray, List.length_cons, List.length_nil, Nat.reduceAdd, Nat.reduceSub, Array.replicate_succ, Array.replicate_zero, List.push_toArray, List.append_toArray, List.nil_append, List.cons_append]
  gi_wp2_with (refine ⟨trivial, ?_⟩; gi_at_call 10; refine (ast_All_in Fence.wide _ trivial rfl _ _ _ _ _ _ _).mono ?_; rintro e w' ⟨rfl, rfl⟩)
  obtain ⟨x, hx⟩ : ∃ x : AElW okOp w, x = ⟨⟨0, ⟨a0_0, a0_1, a0_2, l0_3⟩, A0_3, c0_3⟩, ⟨hc0_3, hr0_3, by simp, by simp⟩, hok⟩ := ⟨_, rfl⟩
  obtain ⟨Wl, hWl⟩ : ∃ Wl, ((w.alloc (.cells #[.string a0_0, .string a0_1, .int .i64 a0_2, .slice A0_3 l0_3.length c0_3] 26)).alloc (.cells #[.int .i64 0] 3)).alloc (.cells #[.string a0_0, .string a0_1, .int .i64 a0_2, .slice A0_3 l0_3.length c0_3] 26) = Wl := ⟨_, rfl⟩
  have hsz1 : Wl.heap.size = w.heap.size + 3 := by rw [← hWl]; simp
  have hbel : Below w.heap.size w Wl := by rw [← hWl]; exact (((Below.refl _ _).alloc (Nat.le_refl _) _).alloc (by simp) _).alloc (by simp; omega) _
  have hbx : Wl.heap[w.heap.size + 1]? = some (.cells #[.int .i64 0] 3 (0, 0)) := by
    rw [← hWl]
    refine (heap_alloc_old _ _ _ (by simp)).trans ?_
    have := heap_alloc_new (w.alloc (.cells #[.string a0_0, .string a0_1, .int .i64 a0_2, .slice A0_3 l0_3.length c0_3] 26)) (.cells #[.int .i64 0] 3)
    rwa [World.size_alloc] at this
  have hbn : Wl.heap[w.heap.size + 2]? = some (.cells #[.string a0_0, .string a0_1, .int .i64 a0_2, .slice A0_3 l0_3.length c0_3] 26 (0, 0)) := by
    rw [← hWl]
    have := heap_alloc_new ((w.alloc (.cells #[.string a0_0, .string a0_1, .int .i64 a0_2, .slice A0_3 l0_3.length c0_3] 26)).alloc (.cells #[.int .i64 0] 3)) (.cells #[.string a0_0, .string a0_1, .int .i64 a0_2, .slice A0_3 l0_3.length c0_3] 26)
    rwa [World.size_alloc, World.size_alloc] at this
  rw [hWl]
  clear hWl
  have hstop := all_stops okOp okOp_kids Fence.wide rfl 8 trivial trivial rfl (w.heap.size + 2) w Wl (fun k => k = w.heap.size + 1) (by rintro k rfl; omega) hbel x (by rw [hx]) (by rw [hx]; exact hsz) (by omega) (by rw [hx]; exact hbn)
  have hxn : allT 0 x.1.n = allT 0 ⟨a0_0, a0_1, a0_2, l0_3⟩ := by rw [hx]
  rw [hxn] at hstop
  refine wpIn_rangeFunc_ownH rfl (by omega) (gf := 23) (lb := #[.pointer (some ⟨w.heap.size + 2, 0, none⟩)]) rfl trivial (enters_of Tryd.func23 (by kernel_rfl) rfl)
    hstop (fun h k => h.trans k) (KpM.book (by omega)) (Below.refl _ _) (fun _ => rfl)
    (fun pre W => (Boxed W (w.heap.size + 1) 3 (.int .i64 0) ∧ Hid (allLow (toldE pre))) ∧ Below w.heap.size w W)
    (fun c pre W => ((c = .ret ∧ Boxed W (w.heap.size + 1) 3 (.int .i64 (-1))) ∧ Hid (noLow (toldE pre))) ∧ Below w.heap.size w W)
    (OwnFrom.and (OwnFrom.and (Own.from (boxed_own _ _ _) _) (fun s A B row hs _ _ => hs)) (ownFrom_below (Nat.le_refl _) (by omega)))
    (fun c => OwnFrom.and (OwnFrom.and (OwnFrom.and (fun s A B row hs _ _ => hs) (Own.from (boxed_own _ _ _) _)) (fun s A B row hs _ _ => hs)) (ownFrom_below (Nat.le_refl _) (by omega)))
    ⟨⟨hbx, Lib.hid (fun x hx => by simp [toldE] at hx)⟩, hbel⟩
    (fun y a' W => ∃ Bx, W.heap[Bx]? = some (.cells #[.string y.1.n.f0, .string y.1.n.f1, .int .i64 y.1.n.f2, .slice y.1.A y.1.n.f3.length y.1.c] 26 (0, 0)) ∧ a' = { tmps := #[.agg #[.string a0_0, .string a0_1, .int .i64 a0_2, .slice A0_3 l0_3.length c0_3], .pointer (some ⟨w.heap.size, 0, none⟩), .pointer (some ⟨w.heap.size + 1, 0, none⟩), undef, .pointer (some ⟨Bx, 0, none⟩), undef, .agg #[.string a0_0, .string a0_1, .int .i64 a0_2, .slice A0_3 l0_3.length c0_3], .func (.func 23) #[] #[.pointer (some ⟨w.heap.size + 2, 0, none⟩)], .int .i64 y.1.d, y.1.val, undef, undef, undef, undef, undef, undef, undef, undef, undef, undef, undef, undef, undef, undef, undef, undef, undef, undef, undef], defers := [] })
    (fun y a' s A B row hs hg hr => by
      obtain ⟨Bx, h1, h2⟩ := hs
      exact ⟨Bx, ownFrom_blk (B := Wl.heap.size) Bx () A B row h1 hg hr, h2⟩) ?assign ?body ?done ?stop
  case assign =>
    rintro l pre y W K ⟨⟨hb, hp⟩, hB⟩ hK
    have hy : y.1.val = .agg #[.string y.1.n.f0, .string y.1.n.f1, .int .i64 y.1.n.f2, .slice y.1.A y.1.n.f3.length y.1.c] := rfl
    simp only [AElW.enc, hy]
    gi_wp2
    refine hK _ _ ((KeepsOthers.alloc _ _).from _) (KpM.of_below (by have := hB.size; omega) ((Below.refl _ _).alloc (Nat.le_refl _) _)) ⟨⟨hb.alloc _, hp⟩, hB.alloc hB.size _⟩ ⟨W.heap.size, heap_alloc_new W _, ?_⟩
    simp [AEl.val]
  case body =>
    rintro l pre y a' W hl ⟨rr, hrr⟩ ⟨⟨hb, hp⟩, hB⟩ ⟨Bx, hbx2, rfl⟩ hlen
    have c0 : W.cell? ⟨Bx, 0, none⟩ = some (.string y.1.n.f0) := (blk_cell hbx2 0).trans rfl
    have hc := hb.cell
    have hf := hb.frozen
    obtain ⟨s, hs⟩ : ∃ s, y.1.n.f0 = s := ⟨_, rfl⟩
    rw [hs] at c0
    have hsl : s.size ≤ 1000000 := by rw [← hs]; exact y.2.2 (0, y.1.n) (by rw [allT_eq]; exact List.mem_cons_self)
    gi_wp2
    gi_loop [5] (fun v => ∃ i : Int, v = .int .i64 i ∧ 0 ≤ i ∧ i ≤ s.size ∧ Hid (∀ q : Nat, (q : Int) < i → 97 ≤ bt s (q : Int) ∧ bt s (q : Int) ≤ 122)) (fun v => s.size - (intOf v).toNat)
    case atStart => exact ⟨0, rfl, by omega, by omega, Lib.hid (fun q h => by omega)⟩
    case round =>
      obtain ⟨i, rfl, hi0, hi, HA⟩ := hrel
      by_cases hlt : i < (s.size : Int)
      · have hdc : decide (i < (s.size : Int)) = true := decide_eq_true (by omega)
        have hbt := bt_at s i (by omega)
        obtain ⟨c, hc'⟩ : ∃ c, bt s i = c := ⟨_, rfl⟩
        rw [hc'] at hbt
        have hk : c < 97 ∨ (97 ≤ c ∧ c ≤ 122) ∨ 122 < c := by omega
        rcases hk with h | h | h
        · have e1 : decide (c < 97) = true := decide_eq_true h
          have hno : Hid (noLow (toldE (pre ++ [y]))) := Lib.hid ⟨(y.1.d, y.1.n), by rw [toldE_app]; exact List.mem_append_right _ (by simp [toldE]), fun hl => by have := hl i.toNat (by rw [hs]; omega); simp only [hs] at this; rw [show ((i.toNat : Nat) : Int) = i by omega] at this; omega⟩
          gi_wp2
          exact ⟨(KeepsOthers.setCell _ _ _).from _, ⟨⟨rfl, hb.set _⟩, hno⟩, hB.setCell (p := ⟨w.heap.size + 1, 0, none⟩) (Nat.le_succ _) _⟩
        · have e1 : decide (c < 97) = false := decide_eq_false (by omega)
          have e2 : decide (c > 122) = false := decide_eq_false (by omega)
          have e3 : decide (122 < c) = false := decide_eq_false (by omega)
          have e4 : (c ≤ 122) := by omega
          gi_wp2
          go_roundw
          case rel => exact ⟨i + 1, by (simp <;> (unfold wrap64; omega)), by omega, by omega, Lib.hid (fun q hq => by
            by_cases h' : (q : Int) = i
            · rw [h', hc']; exact h
            · exact HA.out q (by omega))⟩
          case measure => simp only [intOf]; omega
        · have e1 : decide (c < 97) = false := decide_eq_false (by omega)
          have e2 : decide (c > 122) = true := decide_eq_true (by omega)
          have e3 : decide (122 < c) = true := decide_eq_true (by omega)
          have hno : Hid (noLow (toldE (pre ++ [y]))) := Lib.hid ⟨(y.1.d, y.1.n), by rw [toldE_app]; exact List.mem_append_right _ (by simp [toldE]), fun hl => by have := hl i.toNat (by rw [hs]; omega); simp only [hs] at this; rw [show ((i.toNat : Nat) : Int) = i by omega] at this; omega⟩
          gi_wp2
          exact ⟨(KeepsOthers.setCell _ _ _).from _, ⟨⟨rfl, hb.set _⟩, hno⟩, hB.setCell (p := ⟨w.heap.size + 1, 0, none⟩) (Nat.le_succ _) _⟩
      · obtain rfl : i = (s.size : Int) := by omega
        have hdc : decide ((s.size : Int) < (s.size : Int)) = false := decide_eq_false (by omega)
        have hyes : Hid (allLow (toldE (pre ++ [y]))) := Lib.hid (fun z hz => by
          rw [toldE_app, List.mem_append] at hz
          rcases hz with hz | hz
          · exact hp.out z hz
          · obtain rfl : z = (y.1.d, y.1.n) := by simpa [toldE] using hz
            simp only [hs]
            exact fun q hq => HA.out q (by omega))
        gi_wp2
        exact ⟨KeepsFrom.refl _ _, KpM.refl _ _ _, ⟨hb, hyes⟩, hB⟩
  case done =>
    rintro D ys W hD hys ⟨⟨hb, hp⟩, hB⟩ hK
    have hl : lowT ⟨a0_0, a0_1, a0_2, l0_3⟩ := by
      intro z hz
      rw [← hys] at hz
      exact hp.out z hz
    rw [if_pos hl] at hr
    subst hr
    have hc := hb.cell
    have hf := hb.frozen
    gi_wp2
    have hK' := (KeepsOthers.setCell W ⟨w.heap.size + 1, 0, none⟩ (.int .i64 0)).same D _ hK rfl
    refine ⟨by simp, .inl ⟨_, _, rfl, run_takeDeferred hK', ?_⟩⟩
    have hc5 := cell_kept (hb.set (.int .i64 0)).cell (grownBy_putObj' _ D (.deferred none)) (fun r e => by cases e; exact ⟨_, hK', rfl⟩)
    refine ⟨.int .i64 0, ?_, rfl, ?_⟩
    · simp [results, Tryd.f13, go_sem, hc5]
    · exact (hB.setCell (p := ⟨w.heap.size + 1, 0, none⟩) (Nat.le_succ _) _).trans (belowK_b (w := w) (Nat.le_refl _) _ D _ _ (by omega) hK' rfl rfl)
  case stop =>
    rintro D c pre W hD hpre ⟨⟨⟨rfl, hb⟩, hp⟩, hB⟩ hK
    have hl : ¬ lowT ⟨a0_0, a0_1, a0_2, l0_3⟩ := by
      intro hl
      obtain ⟨z, hz, hn⟩ := hp.out
      exact hn (hl z (hpre.subset hz))
    rw [if_neg hl] at hr
    subst hr
    gi_wp2
    refine ⟨by simp, .inl ⟨_, _, rfl, run_takeDeferred hK, ?_⟩⟩
    have hc5 := cell_kept hb.cell (grownBy_putObj' _ D (.deferred none)) (fun r e => by cases e; exact ⟨_, hK, rfl⟩)
    refine ⟨.int .i64 (-1), ?_, rfl, ?_⟩
    · simp [results, Tryd.f13, go_sem, hc5]
    · exact hB.trans (belowK_b (w := w) (Nat.le_refl _) _ D _ _ (by omega) hK rfl rfl)
end Go.Proofs.YtgkojnpbgkglgaaDoor.Pr
