/- ast.First, walked by hand (with slices.Contains and slices.Index of texts, at two texts). -/
import Derived.Test.YtgkojnpbgkglgaaDoorPuAsL
set_option linter.unusedVariables false
set_option linter.unusedSimpArgs false
namespace Go.Proofs.YtgkojnpbgkglgaaDoor.Pr
open Go Go.RowKit Go.Shelf Go.Proofs.YtgkojnpbgkglgaaDoorW.PrintWords Go.Proofs.YtgkojnpbgkglgaaDoorW.PrintLast Go.Proofs.YtgkojnpbgkglgaaDoorW.PrintMore
attribute [local go_sem] Oper.semAt_some

def eqB (s t : ByteArray) : Bool := s.toList == t.toList
abbrev fIndex : Nat := 35
abbrev fContains : Nat := 29
set_option maxHeartbeats 4000000 in
set_option maxRecDepth 100000 in
theorem index2_calls (a b s : ByteArray) (g : Nat) (W : World) (hg : W.heap[g]? = some (.cells #[.string a, .string b] 9 (0, 0))) :
    Calls Tryd.prog fIndex #[.slice (some ⟨g, 0, none⟩) 2 2, .string s] W fun e W' => e = .returned (.int .i64 (if eqB s a then 0 else if eqB s b then 1 else -1)) ∧ Below W.heap.size W W' := by
  have HG := Lib.hid hg
  have c0 : W.cell? ⟨g, 0, none⟩ = some (.string a) := (blk_cell hg 0).trans rfl
  have c1 : W.cell? ⟨g, 1, none⟩ = some (.string b) := (blk_cell hg 1).trans rfl
  clear hg
  obtain ⟨x, hx⟩ : ∃ x, eqB s a = x := ⟨_, rfl⟩
  obtain ⟨y, hy⟩ : ∃ y, eqB s b = y := ⟨_, rfl⟩
  rw [hx, hy]
  unfold eqB at hx hy
  unfold fIndex
  go_enter Tryd.func35, Tryd.ntmps35
  go_wp2
  go_loopg [8] 3 (fun gk v wr => ∃ i : Int, v = .int .i64 i ∧ 0 ≤ i ∧ 2 < gk + i ∧ (i = 0 ∨ (i = 1 ∧ x = false) ∨ (i = 2 ∧ x = false ∧ y = false)) ∧ Hid (wr = W))
  case atStart => exact ⟨0, rfl, by omega, by omega, .inl rfl, Lib.hid rfl⟩
  case round =>
    obtain ⟨i, rfl, hi, hgk, hc, HW⟩ := hrel
    obtain rfl := HW.out
    clear HW
    rcases hc with rfl | ⟨rfl, rfl⟩ | ⟨rfl, rfl, rfl⟩
    · cases x with
      | true =>
        go_wp2
        go_ret
        exact ⟨rfl, Below.refl _ _⟩
      | false =>
        go_wp2
        go_roundg (gk - 1)
        case measure => omega
        case rel => exact ⟨1, by (simp <;> (unfold wrap64; omega)), by omega, by omega, .inr (.inl (by simp)), Lib.hid rfl⟩
    · cases y with
      | true =>
        go_wp2
        go_ret
        exact ⟨rfl, Below.refl _ _⟩
      | false =>
        go_wp2
        go_roundg (gk - 1)
        case measure => omega
        case rel => exact ⟨2, by (simp <;> (unfold wrap64; omega)), by omega, by omega, .inr (.inr (by simp)), Lib.hid rfl⟩
    · go_wp2
      go_ret
      exact ⟨rfl, Below.refl _ _⟩
theorem contains2_calls (a b s : ByteArray) (g : Nat) (W : World) (hg : W.heap[g]? = some (.cells #[.string a, .string b] 9 (0, 0))) :
    Calls Tryd.prog fContains #[.slice (some ⟨g, 0, none⟩) 2 2, .string s] W fun e W' => e = .returned (.bool (eqB s a || eqB s b)) ∧ Below W.heap.size W W' := by
  have HI := Lib.hid (index2_calls a b s g W hg)
  unfold fIndex at HI
  obtain ⟨x, hx⟩ : ∃ x, eqB s a = x := ⟨_, rfl⟩
  obtain ⟨y, hy⟩ : ∃ y, eqB s b = y := ⟨_, rfl⟩
  rw [hx, hy] at HI ⊢
  clear hx hy hg
  obtain ⟨i, hi, hd⟩ : ∃ i : Int, (if x = true then (0 : Int) else if y = true then 1 else -1) = i ∧ decide (i ≥ 0) = (x || y) := ⟨_, rfl, by cases x <;> cases y <;> rfl⟩
  rw [hi] at HI
  have hd2 : decide (0 ≤ i) = (x || y) := hd
  obtain ⟨z, hz⟩ : ∃ z, (x || y) = z := ⟨_, rfl⟩
  rw [hz] at hd hd2 ⊢
  clear hi hz
  unfold fContains
  go_enter Tryd.func29, Tryd.ntmps29
  go_wp2_with (go_at_call 35; (with_reducible refine HI.out.mono ?_); rintro e w2 ⟨rfl, hb2⟩)
  go_ret
  exact ⟨rfl, hb2⟩
def hitB (a b : ByteArray) (n : ANode) : Bool := eqB n.f0 a || eqB n.f0 b
abbrev zeroCells : Array Value := #[.string (⟨#[]⟩ : ByteArray), .string (⟨#[]⟩ : ByteArray), .int .i64 0, .slice none 0 0]
/-- what First answers: the first node that is one of these, with its row of kids; or none -/
def FirstSaid (a b : ByteArray) (n : ANode) (w : World) (e : Ending) : Prop :=
  (∃ (pre suf : List (Int × ANode)) (d : Int) (k : ANode) (A : Option Addr) (c : Nat), allT 0 n = pre ++ (d, k) :: suf ∧ (∀ x ∈ pre, hitB a b x.2 = false) ∧ hitB a b k = true ∧ k.f3.length ≤ c ∧ Kd.C k26 w A k.f3.length k.f3 ∧
      e = .returned (.tuple #[.agg #[.string k.f0, .string k.f1, .int .i64 k.f2, .slice A k.f3.length c], .bool true])) ∨
    ((∀ x ∈ allT 0 n, hitB a b x.2 = false) ∧ e = .returned (.tuple #[.agg zeroCells, .bool false]))
def NoHit (a b : ByteArray) (l : List (Int × ANode)) : Prop := ∀ x ∈ l, hitB a b x.2 = false
def HitAt (a b : ByteArray) (l : List (Int × ANode)) (d : Int) (k : ANode) : Prop := ∃ pre, l = pre ++ [(d, k)] ∧ NoHit a b pre ∧ hitB a b k = true
theorem NoHit_snoc {w : World} {a b : ByteArray} {pre : List (AElW (fun _ => True) w)} {y : AElW (fun _ => True) w} (h : NoHit a b (toldE pre)) (hy : hitB a b y.1.n = false) : NoHit a b (toldE (pre ++ [y])) := by
  intro x hx
  rw [toldE_app, List.mem_append] at hx
  rcases hx with hx | hx
  · exact h x hx
  · obtain rfl : x = (y.1.d, y.1.n) := by simpa [toldE] using hx
    exact hy
theorem HitAt_mk {w : World} {a b : ByteArray} {pre : List (AElW (fun _ => True) w)} {y : AElW (fun _ => True) w} (h : NoHit a b (toldE pre)) (hy : hitB a b y.1.n = true) : HitAt a b (toldE (pre ++ [y])) y.1.d y.1.n := ⟨toldE pre, by rw [toldE_app]; rfl, h, hy⟩
/-- the first that is one of these has been laid -/
def Found (w : World) (B : Nat) (a b : ByteArray) (l : List (Int × ANode)) (W : World) : Prop := ∃ y : AElW (fun _ => True) w, W.heap[B]? = some (.cells #[.string y.1.n.f0, .string y.1.n.f1, .int .i64 y.1.n.f2, .slice y.1.A y.1.n.f3.length y.1.c] 26 (0, 0)) ∧ HitAt a b l y.1.d y.1.n
theorem alloc5 (w : World) (o0 o1 o2 o3 o4 : Obj) (W : World) (h : W = ((((w.alloc o0).alloc o1).alloc o2).alloc o3).alloc o4) :
    W.heap.size = w.heap.size + 5 ∧ W.heap[w.heap.size + 1]? = some o1 ∧ W.heap[w.heap.size + 2]? = some o2 ∧ W.heap[w.heap.size + 3]? = some o3 ∧ W.heap[w.heap.size + 4]? = some o4 ∧ Below w.heap.size w W := by
  subst h
  have n1 := World.alloc_heap_new (w.alloc o0) o1
  have n2 := World.alloc_heap_new ((w.alloc o0).alloc o1) o2
  have n3 := World.alloc_heap_new (((w.alloc o0).alloc o1).alloc o2) o3
  have n4 := World.alloc_heap_new ((((w.alloc o0).alloc o1).alloc o2).alloc o3) o4
  simp only [World.size_alloc, Nat.add_assoc, Nat.reduceAdd] at n1 n2 n3 n4
  refine ⟨by simp, (Below.heap_alloc _ _ _ (by simp)).trans ((Below.heap_alloc _ _ _ (by simp)).trans ((Below.heap_alloc _ _ _ (by simp)).trans n1)), (Below.heap_alloc _ _ _ (by simp)).trans ((Below.heap_alloc _ _ _ (by simp)).trans n2), (Below.heap_alloc _ _ _ (by simp)).trans n3, n4, ?_⟩
  exact (((((Below.refl _ _).alloc (Nat.le_refl _) _).alloc (by simp) _).alloc (by simp; omega) _).alloc (by simp; omega) _).alloc (by simp; omega) _
set_option maxRecDepth 100000 in
set_option maxHeartbeats 4000000 in
theorem First_calls (a b : ByteArray) (n : ANode) (A : Option Addr) (c g : Nat) (w : World) (hsz : sizeT n ≤ 1000000000000) (hC : Kd.C k26 w A n.f3.length n.f3) (hc : n.f3.length ≤ c) (hg : w.heap[g]? = some (.cells #[.string a, .string b] 9 (0, 0))) :
    Calls Tryd.prog 20 #[.agg #[.string n.f0, .string n.f1, .int .i64 n.f2, .slice A n.f3.length c], .slice (some ⟨g, 0, none⟩) 2 2] w fun e w' => FirstSaid a b n w e ∧ Below w.heap.size w w' := by
  have hu := Tryd.underlying26
  have hgl := (Array.getElem?_eq_some_iff.1 hg).1
  have HG := Lib.hid hg
  clear hg
  refine (callsIn_wide (n := 9)).1 ?_
  refine callsIn_of_wp_marks Tryd.func20 rfl trivial ?_ rfl
  simp only [Tryd.ntmps20, List.size_toArray, List.length_cons, List.length_nil, Nat.reduceAdd, Nat.reduceSub, Array.replicate_succ, Array.replicate_zero, List.push_toArray, List.append_toArray, List.nil_append, List.cons_append]
  gi_wp2_with (refine ⟨trivial, ?_⟩; gi_at_call 10; refine (ast_All_in Fence.wide _ trivial rfl _ _ _ _ _ _ _).mono ?_; rintro e w' ⟨rfl, rfl⟩)
  simp only [show w.heap.size + 1 + 1 + 1 + 1 = w.heap.size + 4 from rfl, show w.heap.size + 1 + 1 + 1 = w.heap.size + 3 from rfl, show w.heap.size + 1 + 1 = w.heap.size + 2 from rfl]
  obtain ⟨x, hx⟩ : ∃ x : AElW (fun _ => True) w, x = ⟨⟨0, n, A, c⟩, ⟨hc, hC, by simp, by simp⟩, trivial⟩ := ⟨_, rfl⟩
  obtain ⟨Wl, hWl⟩ : ∃ Wl, ((((w.alloc (.cells #[.string n.f0, .string n.f1, .int .i64 n.f2, .slice A n.f3.length c] 26)).alloc (.cells #[.slice (some ⟨g, 0, none⟩) 2 2] 66)).alloc (.cells zeroCells 26)).alloc (.cells #[.bool false] 4)).alloc (.cells #[.string n.f0, .string n.f1, .int .i64 n.f2, .slice A n.f3.length c] 26) = Wl := ⟨_, rfl⟩
  obtain ⟨hsz1, hb1, hb2, hb3, hbn, hbel⟩ := alloc5 w _ _ _ _ _ Wl hWl.symm
  rw [hWl]
  clear hWl
  have hstop := all_stops (fun _ => True) (fun _ _ _ _ => trivial) Fence.wide rfl 8 trivial trivial rfl (w.heap.size + 4) w Wl (fun k => k = w.heap.size + 2 ∨ k = w.heap.size + 3) (by rintro k (rfl | rfl) <;> omega) hbel x (by rw [hx]) (by rw [hx]; exact hsz) (by omega) (by rw [hx]; exact hbn)
  have hxn : allT 0 x.1.n = allT 0 n := by rw [hx]
  rw [hxn] at hstop
  refine wpIn_rangeFunc_ownH rfl (by omega) (gf := 23) (lb := #[.pointer (some ⟨w.heap.size + 4, 0, none⟩)]) rfl trivial (enters_of Tryd.func23 (by kernel_rfl) rfl)
    hstop (fun h k => h.trans k) (KpM.book (by omega)) (Below.refl _ _) (fun _ => rfl)
    (fun pre W => (((Boxed W (w.heap.size + 1) 66 (.slice (some ⟨g, 0, none⟩) 2 2) ∧ Boxed W (w.heap.size + 3) 4 (.bool false)) ∧ W.heap[w.heap.size + 2]? = some (.cells zeroCells 26 (0, 0))) ∧ Hid (NoHit a b (toldE pre))) ∧ Below w.heap.size w W)
    (fun cc pre W => ((cc = .ret ∧ Boxed W (w.heap.size + 3) 4 (.bool true)) ∧ Found w (w.heap.size + 2) a b (toldE pre) W) ∧ Below w.heap.size w W)
    (OwnFrom.and (OwnFrom.and (OwnFrom.and (OwnFrom.and (Own.from (boxed_own _ _ _) _) (Own.from (boxed_own _ _ _) _)) (fun s X Z row hs hg hr => ownFrom_blk (B := Wl.heap.size) _ () X Z row hs hg hr)) (fun s X Z row hs _ _ => hs)) (ownFrom_below (Nat.le_refl _) (by omega)))
    (fun cc => OwnFrom.and (OwnFrom.and (OwnFrom.and (fun s X Z row hs _ _ => hs) (Own.from (boxed_own _ _ _) _)) (fun s X Z row hs hg hr => by obtain ⟨y, h1, h2⟩ := hs; exact ⟨y, ownFrom_blk (B := Wl.heap.size) _ () X Z row h1 hg hr, h2⟩)) (ownFrom_below (Nat.le_refl _) (by omega)))
    ⟨⟨⟨⟨hb1, hb3⟩, hb2⟩, Lib.hid (fun x hx => by simp [toldE] at hx)⟩, hbel⟩
    (fun y a' W => ∃ Bx, W.heap[Bx]? = some (.cells #[.string y.1.n.f0, .string y.1.n.f1, .int .i64 y.1.n.f2, .slice y.1.A y.1.n.f3.length y.1.c] 26 (0, 0)) ∧ a' = { tmps := #[.agg #[.string n.f0, .string n.f1, .int .i64 n.f2, .slice A n.f3.length c], .slice (some ⟨g, 0, none⟩) 2 2, .pointer (some ⟨w.heap.size, 0, none⟩), .pointer (some ⟨w.heap.size + 1, 0, none⟩), .pointer (some ⟨w.heap.size + 2, 0, none⟩), .pointer (some ⟨w.heap.size + 3, 0, none⟩), undef, .pointer (some ⟨Bx, 0, none⟩), .agg #[.string n.f0, .string n.f1, .int .i64 n.f2, .slice A n.f3.length c], .func (.func 23) #[] #[.pointer (some ⟨w.heap.size + 4, 0, none⟩)], .int .i64 y.1.d, y.1.val, undef, undef, undef, undef, undef, undef], defers := [] })
    (fun y a' s X Z row hs hg hr => by
      obtain ⟨Bx, h1, h2⟩ := hs
      exact ⟨Bx, ownFrom_blk (B := Wl.heap.size) Bx () X Z row h1 hg hr, h2⟩) ?assign ?body ?done ?stop
  case assign =>
    rintro l pre y W K ⟨⟨⟨⟨hb1, hb3⟩, hb2⟩, hp⟩, hB⟩ hK
    have hy : y.1.val = .agg #[.string y.1.n.f0, .string y.1.n.f1, .int .i64 y.1.n.f2, .slice y.1.A y.1.n.f3.length y.1.c] := rfl
    simp only [AElW.enc, hy]
    gi_wp2
    refine hK _ _ ((KeepsOthers.alloc _ _).from _) (KpM.of_below (by have := hB.size; omega) ((Below.refl _ _).alloc (Nat.le_refl _) _)) ⟨⟨⟨⟨hb1.alloc _, hb3.alloc _⟩, (Below.heap_alloc _ _ _ (Array.getElem?_eq_some_iff.1 hb2).1).trans hb2⟩, hp⟩, hB.alloc hB.size _⟩ ⟨W.heap.size, heap_alloc_new W _, ?_⟩
    simp [AEl.val]
  case body =>
    rintro l pre y a' W hl ⟨rr, hrr⟩ ⟨⟨⟨⟨hb1, hb3⟩, hb2⟩, hp⟩, hB⟩ ⟨Bx, hbx2, rfl⟩ hlen
    have HCT := Lib.hid (fun l => (callsIn_wide (n := 6).2 (contains2_calls a b y.1.n.f0 g W ((hB.block g hgl).trans HG.out))).inRound l)
    obtain ⟨z, hz⟩ : ∃ z, hitB a b y.1.n = z := ⟨_, rfl⟩
    have hz' : (eqB y.1.n.f0 a || eqB y.1.n.f0 b) = z := hz
    rw [hz'] at HCT
    have HZ := Lib.hid hz
    clear hz hz'
    have d0 : W.cell? ⟨Bx, 0, none⟩ = some (.string y.1.n.f0) := (blk_cell hbx2 0).trans rfl
    have e1 := hb1.cell
    have f1 := hb1.frozen
    cases z with
    | false =>
      gi_wp2_with (refine ⟨trivial, ?_⟩; gi_at_call 29; refine (HCT.out _).mono ?_; rintro e w2 ⟨rfl, hb4⟩)
      have hk : KeepsOthers W w2 := ⟨hb4.size, fun k o ho _ => (hb4.block k (Array.getElem?_eq_some_iff.1 ho).1).trans ho⟩
      exact ⟨hk.from _, KpM.of_below (by have := hB.size; omega) hb4, ⟨⟨⟨(hb4.block _ (Array.getElem?_eq_some_iff.1 hb1).1).trans hb1, (hb4.block _ (Array.getElem?_eq_some_iff.1 hb3).1).trans hb3⟩, (hb4.block _ (Array.getElem?_eq_some_iff.1 hb2).1).trans hb2⟩, Lib.hid (NoHit_snoc hp.out HZ.out)⟩, hB.trans (hb4.mono hB.size)⟩
    | true =>
      gi_wp2_with (refine ⟨trivial, ?_⟩; gi_at_call 29; refine (HCT.out _).mono ?_; rintro e w2 ⟨rfl, hb4⟩; clear d0; have hbx3 := (hb4.block _ (Array.getElem?_eq_some_iff.1 hbx2).1).trans hbx2; have d0 : w2.cell? ⟨Bx, 0, none⟩ = some (.string y.1.n.f0) := (blk_cell hbx3 0).trans rfl; have d1 : w2.cell? ⟨Bx, 1, none⟩ = some (.string y.1.n.f1) := (blk_cell hbx3 1).trans rfl; have d2 : w2.cell? ⟨Bx, 2, none⟩ = some (.int .i64 y.1.n.f2) := (blk_cell hbx3 2).trans rfl; have d3 : w2.cell? ⟨Bx, 3, none⟩ = some (.slice y.1.A y.1.n.f3.length y.1.c) := (blk_cell hbx3 3).trans rfl; have hb32 : Boxed w2 (w.heap.size + 3) 4 (.bool false) := (hb4.block _ (Array.getElem?_eq_some_iff.1 hb3).1).trans hb3; have hb22 := (hb4.block _ (Array.getElem?_eq_some_iff.1 hb2).1).trans hb2; have g0 := blk_frozen hb22 0; have g1 := blk_frozen hb22 1; have g2 := blk_frozen hb22 2; have g3 := blk_frozen hb22 3; have g4 := hb32.frozen; have o0 : w2.cell? ⟨w.heap.size + 2, 0, none⟩ = some (.string (⟨#[]⟩ : ByteArray)) := (blk_cell hb22 0).trans rfl; have o1 : w2.cell? ⟨w.heap.size + 2, 1, none⟩ = some (.string (⟨#[]⟩ : ByteArray)) := (blk_cell hb22 1).trans rfl; have o2 : w2.cell? ⟨w.heap.size + 2, 2, none⟩ = some (.int .i64 0) := (blk_cell hb22 2).trans rfl; have o3 : w2.cell? ⟨w.heap.size + 2, 3, none⟩ = some (.slice none 0 0) := (blk_cell hb22 3).trans rfl; have o4 := hb32.cell)
      have hk : KeepsOthers W w2 := ⟨hb4.size, fun k o ho _ => (hb4.block k (Array.getElem?_eq_some_iff.1 ho).1).trans ho⟩
      have hS := (blk_set (blk_set (blk_set (blk_set hb22 0 (.string y.1.n.f0)) 1 (.string y.1.n.f1)) 2 (.int .i64 y.1.n.f2)) 3 (.slice y.1.A y.1.n.f3.length y.1.c)).trans rfl
      have hbB := hB.trans (hb4.mono hB.size)
      refine ⟨(((((hk.trans (KeepsOthers.setCell _ _ _)).trans (KeepsOthers.setCell _ _ _)).trans (KeepsOthers.setCell _ _ _)).trans (KeepsOthers.setCell _ _ _)).trans (KeepsOthers.setCell _ _ _)).from _, ⟨⟨rfl, Boxed.set (v := .bool false) _ ?_⟩, y, ?_, HitAt_mk hp.out HZ.out⟩, ?_⟩
      · exact (Below.heap_setCell _ _ _ _ (by simp)).trans ((Below.heap_setCell _ _ _ _ (by simp)).trans ((Below.heap_setCell _ _ _ _ (by simp)).trans ((Below.heap_setCell _ _ _ _ (by simp)).trans hb32)))
      · exact (Below.heap_setCell _ _ _ _ (by simp)).trans hS
      · exact ((((hbB.setCell (p := ⟨w.heap.size + 2, 0, none⟩) (by simp) _).setCell (p := ⟨w.heap.size + 2, 1, none⟩) (by simp) _).setCell (p := ⟨w.heap.size + 2, 2, none⟩) (by simp) _).setCell (p := ⟨w.heap.size + 2, 3, none⟩) (by simp) _).setCell (p := ⟨w.heap.size + 3, 0, none⟩) (by simp) _
  case done =>
    rintro D ys W hD hys ⟨⟨⟨⟨hb1, hb3⟩, hb2⟩, hp⟩, hB⟩ hK
    have hno : NoHit a b (allT 0 n) := by rw [← hys]; exact hp.out
    have o0 : W.cell? ⟨w.heap.size + 2, 0, none⟩ = some (.string (⟨#[]⟩ : ByteArray)) := (blk_cell hb2 0).trans rfl
    have o1 : W.cell? ⟨w.heap.size + 2, 1, none⟩ = some (.string (⟨#[]⟩ : ByteArray)) := (blk_cell hb2 1).trans rfl
    have o2 : W.cell? ⟨w.heap.size + 2, 2, none⟩ = some (.int .i64 0) := (blk_cell hb2 2).trans rfl
    have o3 : W.cell? ⟨w.heap.size + 2, 3, none⟩ = some (.slice none 0 0) := (blk_cell hb2 3).trans rfl
    have o4 := hb3.cell
    have g0 := blk_frozen hb2 0
    have g1 := blk_frozen hb2 1
    have g2 := blk_frozen hb2 2
    have g3 := blk_frozen hb2 3
    have g4 := hb3.frozen
    gi_wp2
    have hS := (blk_set (blk_set (blk_set (blk_set hb2 0 (.string (⟨#[]⟩ : ByteArray))) 1 (.string (⟨#[]⟩ : ByteArray))) 2 (.int .i64 0)) 3 (.slice none 0 0)).trans (show _ = some (.cells zeroCells 26 (0, 0)) from rfl)
    have hS5 := (Below.heap_setCell _ ⟨w.heap.size + 3, 0, none⟩ (.bool false) _ (by simp)).trans hS
    have hT5 := Boxed.set (v := .bool false) (.bool false) (show Boxed ((((W.setCell ⟨w.heap.size + 2, 0, none⟩ (.string (⟨#[]⟩ : ByteArray))).setCell ⟨w.heap.size + 2, 1, none⟩ (.string (⟨#[]⟩ : ByteArray))).setCell ⟨w.heap.size + 2, 2, none⟩ (.int .i64 0)).setCell ⟨w.heap.size + 2, 3, none⟩ (.slice none 0 0)) (w.heap.size + 3) 4 (.bool false) from (Below.heap_setCell _ _ _ _ (by simp)).trans ((Below.heap_setCell _ _ _ _ (by simp)).trans ((Below.heap_setCell _ _ _ _ (by simp)).trans ((Below.heap_setCell _ _ _ _ (by simp)).trans hb3))))
    have hB5 := ((((hB.setCell (p := ⟨w.heap.size + 2, 0, none⟩) (by simp) (.string (⟨#[]⟩ : ByteArray))).setCell (p := ⟨w.heap.size + 2, 1, none⟩) (by simp) (.string (⟨#[]⟩ : ByteArray))).setCell (p := ⟨w.heap.size + 2, 2, none⟩) (by simp) (.int .i64 0)).setCell (p := ⟨w.heap.size + 2, 3, none⟩) (by simp) (.slice none 0 0)).setCell (p := ⟨w.heap.size + 3, 0, none⟩) (by simp) (.bool false)
    have hK5 := (((((KeepsOthers.setCell W ⟨w.heap.size + 2, 0, none⟩ (.string (⟨#[]⟩ : ByteArray))).trans (KeepsOthers.setCell _ ⟨w.heap.size + 2, 1, none⟩ (.string (⟨#[]⟩ : ByteArray)))).trans (KeepsOthers.setCell _ ⟨w.heap.size + 2, 2, none⟩ (.int .i64 0))).trans (KeepsOthers.setCell _ ⟨w.heap.size + 2, 3, none⟩ (.slice none 0 0))).trans (KeepsOthers.setCell _ ⟨w.heap.size + 3, 0, none⟩ (.bool false))).same D _ hK rfl
    obtain ⟨W5, hW5⟩ : ∃ W5, ((((W.setCell ⟨w.heap.size + 2, 0, none⟩ (.string (⟨#[]⟩ : ByteArray))).setCell ⟨w.heap.size + 2, 1, none⟩ (.string (⟨#[]⟩ : ByteArray))).setCell ⟨w.heap.size + 2, 2, none⟩ (.int .i64 0)).setCell ⟨w.heap.size + 2, 3, none⟩ (.slice none 0 0)).setCell ⟨w.heap.size + 3, 0, none⟩ (.bool false) = W5 := ⟨_, rfl⟩
    rw [hW5] at hS5 hT5 hB5 hK5 ⊢
    clear hW5 o0 o1 o2 o3 o4 g0 g1 g2 g3 g4 hS
    have k0 : W5.cell? ⟨w.heap.size + 2, 0, none⟩ = some (.string (⟨#[]⟩ : ByteArray)) := (blk_cell hS5 0).trans rfl
    have k1 : W5.cell? ⟨w.heap.size + 2, 1, none⟩ = some (.string (⟨#[]⟩ : ByteArray)) := (blk_cell hS5 1).trans rfl
    have k2 : W5.cell? ⟨w.heap.size + 2, 2, none⟩ = some (.int .i64 0) := (blk_cell hS5 2).trans rfl
    have k3 : W5.cell? ⟨w.heap.size + 2, 3, none⟩ = some (.slice none 0 0) := (blk_cell hS5 3).trans rfl
    have k4 := hT5.cell
    refine ⟨by simp, .inl ⟨_, _, rfl, run_takeDeferred hK5, ?_⟩⟩
    have q0 := cell_kept k0 (grownBy_putObj' _ D (.deferred none)) (fun r e => by cases e; exact ⟨_, hK5, rfl⟩)
    have q1 := cell_kept k1 (grownBy_putObj' _ D (.deferred none)) (fun r e => by cases e; exact ⟨_, hK5, rfl⟩)
    have q2 := cell_kept k2 (grownBy_putObj' _ D (.deferred none)) (fun r e => by cases e; exact ⟨_, hK5, rfl⟩)
    have q3 := cell_kept k3 (grownBy_putObj' _ D (.deferred none)) (fun r e => by cases e; exact ⟨_, hK5, rfl⟩)
    have q4 := cell_kept k4 (grownBy_putObj' _ D (.deferred none)) (fun r e => by cases e; exact ⟨_, hK5, rfl⟩)
    refine ⟨.tuple #[.agg zeroCells, .bool false], ?_, .inr ⟨hno, rfl⟩, ?_⟩
    · simp [results, Tryd.f20, go_sem, q0, q1, q2, q3, q4, zeroCells]
    · exact hB5.trans (belowK_b (w := w) (Nat.le_refl _) _ D _ _ (by omega) hK5 rfl rfl)
  case stop =>
    rintro D cc pre W hD hpre ⟨⟨⟨rfl, hb⟩, hp⟩, hB⟩ hK
    gi_wp2
    obtain ⟨y, hS5, pre', hpe, hno, hhit⟩ := hp
    obtain ⟨suf, hsuf⟩ := hpre
    have hK5 := hK
    have k0 : W.cell? ⟨w.heap.size + 2, 0, none⟩ = some (.string y.1.n.f0) := (blk_cell hS5 0).trans rfl
    have k1 : W.cell? ⟨w.heap.size + 2, 1, none⟩ = some (.string y.1.n.f1) := (blk_cell hS5 1).trans rfl
    have k2 : W.cell? ⟨w.heap.size + 2, 2, none⟩ = some (.int .i64 y.1.n.f2) := (blk_cell hS5 2).trans rfl
    have k3 : W.cell? ⟨w.heap.size + 2, 3, none⟩ = some (.slice y.1.A y.1.n.f3.length y.1.c) := (blk_cell hS5 3).trans rfl
    have k4 := hb.cell
    refine ⟨by simp, .inl ⟨_, _, rfl, run_takeDeferred hK5, ?_⟩⟩
    have q0 := cell_kept k0 (grownBy_putObj' _ D (.deferred none)) (fun r e => by cases e; exact ⟨_, hK5, rfl⟩)
    have q1 := cell_kept k1 (grownBy_putObj' _ D (.deferred none)) (fun r e => by cases e; exact ⟨_, hK5, rfl⟩)
    have q2 := cell_kept k2 (grownBy_putObj' _ D (.deferred none)) (fun r e => by cases e; exact ⟨_, hK5, rfl⟩)
    have q3 := cell_kept k3 (grownBy_putObj' _ D (.deferred none)) (fun r e => by cases e; exact ⟨_, hK5, rfl⟩)
    have q4 := cell_kept k4 (grownBy_putObj' _ D (.deferred none)) (fun r e => by cases e; exact ⟨_, hK5, rfl⟩)
    refine ⟨.tuple #[.agg #[.string y.1.n.f0, .string y.1.n.f1, .int .i64 y.1.n.f2, .slice y.1.A y.1.n.f3.length y.1.c], .bool true], ?_, .inl ⟨pre', suf, y.1.d, y.1.n, y.1.A, y.1.c, ?_, hno, hhit, y.2.1.1, y.2.1.2.1, rfl⟩, ?_⟩
    · simp [results, Tryd.f20, go_sem, q0, q1, q2, q3, q4]
    · rw [← hsuf, hpe, List.append_assoc, List.singleton_append]
    · exact hB.trans (belowK_b (w := w) (Nat.le_refl _) _ D _ _ (by omega) hK5 rfl rfl)
end Go.Proofs.YtgkojnpbgkglgaaDoor.Pr
