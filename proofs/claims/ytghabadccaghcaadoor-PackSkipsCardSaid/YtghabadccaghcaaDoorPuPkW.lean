/- pack.Writer: the bytes that one has gathered (IsS25), and what its methods do to them. -/
import Derived.Test.YtghabadccaghcaaDoorWAll
import Derived.Test.YtghabadccaghcaaDoorTb1
import Derived.Lib.OthersKept
import Derived.Lib.AppendStr
import Derived.Lib.AppendIntMem
import Derived.Lib.ItoaLen
import Derived.OwnWalk
import Derived.RegionTactic
import Derived.WalkMore
import Derived.Laws.BytesArg
import Derived.Laws.IdiomStrings
namespace Go.Proofs.YtghabadccaghcaaDoor.Pr
open Go Go.RowKit Go.Sort Go.Lib Go.Proofs.YtghabadccaghcaaDoorW.PrintWords Go.Proofs.YtghabadccaghcaaDoorW.PrintLast Go.Proofs.YtghabadccaghcaaDoorW.PrintMore

/-- A writer at block g: its bytes lie in a row above it. -/
def IsS25 (w0 W : World) (g : Nat) (f0 : ByteArray) : Prop :=
  ∃ v, W.heap[g]? = some (.cells #[v] 25 (0, 0)) ∧ W.ownsRow (g + 1) 5 1 v f0.size (Lib.strCells f0) ∧ w0.heap.size ≤ g
section
variable {w0 W W1 : World} {g : Nat} {f0 : ByteArray}
theorem IsS25.lt (h : IsS25 w0 W g f0) : g < W.heap.size := by
  obtain ⟨v, hb, _⟩ := h
  exact blk_lt hb
theorem IsS25.ge (h : IsS25 w0 W g f0) : w0.heap.size ≤ g := h.choose_spec.2.2
theorem IsS25.fresh (h : IsS25 w0 W g f0) : ∀ k, W.heap.size ≤ k → k ≠ g := fun k hk e => by
  have := h.lt
  omega
/-- It stays where its own block and all rows of bytes above it stay. -/
theorem IsS25.move (h : IsS25 w0 W g f0) (h1 : W1.heap[g]? = W.heap[g]?) (h2 : ∀ k cs, W.heap[k]? = some (.cells cs 5 (0, 0)) → g + 1 ≤ k → W1.heap[k]? = W.heap[k]?) : IsS25 w0 W1 g f0 := by
  obtain ⟨v, hb, ho, hg⟩ := h
  refine ⟨v, h1.trans hb, ⟨ho.1, ?_⟩, hg⟩
  rcases ho.2 with hn | ⟨q, cap, cur, hv, hq, hb2, r⟩
  · exact .inl hn
  · exact .inr ⟨q, cap, cur, hv, hq, (h2 q cur hb2 hq).trans hb2, r⟩
theorem IsS25.below (h : IsS25 w0 W g f0) (hw : Below W.heap.size W W1) : IsS25 w0 W1 g f0 :=
  h.move (hw.block g h.lt) (fun k _ hk _ => hw.block k (blk_lt hk))
theorem IsS25.grown {row : Option Nat} (h : IsS25 w0 W g f0) (hw : W.grownBy W1 row) (hne : some g ≠ row ∧ ∀ k, row = some k → ∀ cs, W.heap[k]? ≠ some (.cells cs 5 (0, 0))) : IsS25 w0 W1 g f0 :=
  h.move (hw.block g h.lt hne.1) (fun k cs hk _ => hw.block k (blk_lt hk) (fun e => hne.2 k e.symm cs hk))
theorem IsS25.alloc (h : IsS25 w0 W g f0) (o : Obj) : IsS25 w0 (W.alloc o) g f0 := h.below (below_alloc (Below.refl _ _) o)
theorem IsS25.drewN (h : IsS25 w0 W g f0) (m : Nat) : IsS25 w0 (W.drewN m) g f0 := h
theorem IsS25.drew (h : IsS25 w0 W g f0) : IsS25 w0 W.drew g f0 := h
theorem IsS25.at_ {w' : World} {m : Nat} (hq : W.drewN m = w') (h : IsS25 w0 W g f0) : IsS25 w0 w' g f0 := by subst hq; exact IsS25.drewN h m
section
variable {α : Type} {d : Kd α} {e : Nat} {base : Nat} {ok : Nat → Prop} {v : Value} {xs : List α}
theorem IsS25.own_neN (h : IsS25 w0 W g f0) (ho : Kd.N d e W base ok v xs) (ht : e ≠ 25) : some g ≠ v.ownBlock := Kd.N_ne ho h.choose_spec.1 ht
theorem IsS25.own_ne (h : IsS25 w0 W g f0) (ho : d.R e W base ok v xs) (ht : e ≠ 25) : some g ≠ v.ownBlock := Kd.R_ne ho h.choose_spec.1 ht
theorem IsS25.own2_ne (h : IsS25 w0 W g f0) (ho : d.R e W base ok v xs) (ht : e ≠ 25 ∧ e ≠ 5) : some g ≠ v.ownBlock ∧ ∀ k, v.ownBlock = some k → ∀ cs, W.heap[k]? ≠ some (.cells cs 5 (0, 0)) :=
  ⟨h.own_ne ho ht.1, fun _ hk _ hb => Kd.R_ne ho hb ht.2 hk.symm⟩
theorem IsS25.apart (h : IsS25 w0 W g f0) (ho : d.R e W base ok v xs) (ht : ∀ q, q ∈ e :: d.E → q ≠ 25) : d.R e W base (fun k => ok k ∧ k ≠ g) v xs := Kd.R_types ho h.choose_spec.1 ht
end
theorem IsS25.ne_blk {a : Nat} {cs : Array Value} {t : TypeId} {fr : Nat × Nat} (h : IsS25 w0 W g f0) (hb2 : W.heap[a]? = some (.cells cs t fr)) (ht : t ≠ 25) : g ≠ a := by
  obtain ⟨v, hb, _⟩ := h
  rintro rfl
  rw [hb] at hb2
  injection hb2 with hb2
  injection hb2 with _ ht2
  exact ht ht2.symm
theorem own2_set {a : Nat} {row : Option Nat} {W : World} {p : Addr} {u : Value} (h : some a ≠ row ∧ ∀ k, row = some k → ∀ cs, W.heap[k]? ≠ some (.cells cs 5 (0, 0))) : some a ≠ row ∧ ∀ k, row = some k → ∀ cs, (W.setCell p u).heap[k]? ≠ some (.cells cs 5 (0, 0)) := by
  refine ⟨h.1, fun k hk cs hc => ?_⟩
  by_cases e : k = p.block
  · subst e
    simp only [World.setCell, Array.getElem?_modify] at hc
    cases hb : W.heap[p.block]? with
    | none => rw [hb] at hc; simp at hc
    | some o =>
      rw [hb] at hc
      simp only [if_true, Option.map_some] at hc
      cases o with
      | cells c t fr =>
        injection hc with hc
        injection hc with _ h2 h3
        exact h.2 _ hk c (by rw [hb, h2, h3])
      | _ => injection hc with hc; cases hc
  · rw [Below.heap_setCell W p u k e] at hc
    exact h.2 k hk cs hc
/-- A block that holds no bytes. -/
def Typ5 (W : World) (b : Nat) : Prop := ∃ cs t fr, W.heap[b]? = some (.cells cs t fr) ∧ t ≠ 5
theorem Typ5.of {b : Nat} {cs : Array Value} {t : TypeId} {fr : Nat × Nat} (h : W.heap[b]? = some (.cells cs t fr)) (ht : t ≠ 5) : Typ5 W b := ⟨cs, t, fr, h, ht⟩
theorem Typ5.set {b : Nat} {p : Addr} {u : Value} (h : Typ5 W b) : Typ5 (W.setCell p u) b := by
  obtain ⟨cs, t, fr, hb, ht⟩ := h
  by_cases e : b = p.block
  · subst e
    refine ⟨if p.spot.isSome then cs else cs.setIfInBounds p.off u, t, fr, ?_, ht⟩
    simp only [World.setCell, Array.getElem?_modify, hb]
    simp
  · exact ⟨cs, t, fr, (Below.heap_setCell W p u b e).trans hb, ht⟩
theorem Typ5.alloc {b : Nat} {o : Obj} (h : Typ5 W b) : Typ5 (W.alloc o) b := by
  obtain ⟨cs, t, fr, hb, ht⟩ := h
  exact ⟨cs, t, fr, (Lib.alloc_old W o b (blk_lt hb)).trans hb, ht⟩
theorem Typ5.drewN {b m : Nat} (h : Typ5 W b) : Typ5 (W.drewN m) b := h
theorem Typ5.drew {b : Nat} (h : Typ5 W b) : Typ5 W.drew b := h
theorem IsS25.farB {b j : Nat} (h : IsS25 w0 W g f0) (hne : g ≠ b) (ht : Typ5 W b) (u : Value) : IsS25 w0 (W.setCell ⟨b, j, none⟩ u) g f0 := by
  obtain ⟨cs, t, fr, hb, ht⟩ := ht
  refine h.move (Below.heap_setCell _ _ _ _ hne) (fun k cs2 hk _ => Below.heap_setCell _ _ _ _ ?_)
  rintro rfl
  have e := hk.symm.trans hb
  injection e with e
  injection e with _ e _
  exact ht e.symm
theorem IsS25.born (hb : W.heap[g]? = some (.cells #[.slice none 0 0] 25 (0, 0))) (hg : w0.heap.size ≤ g) : IsS25 w0 W g (⟨#[]⟩ : ByteArray) :=
  ⟨_, hb, ⟨rfl, .inl ⟨rfl, rfl⟩⟩, hg⟩
end

theorem pk_tab {w0 W : World} {g : Nat} (hT : TB w0) (hB : Below w0.heap.size w0 W) (hg : w0.heap.size ≤ g) : Lib.TabBelow Tryd.prog (g + 1) W "internal/strconv.uint64pow10" .u64 Lib.pow10Tab := fun w' hb =>
  Joins.tab_stays tb_glob hT.pow (hB.trans (hb.mono (by omega))) (Nat.le_refl _)
theorem strCells_join (a b : ByteArray) : Lib.strCells (a ++ b) = Lib.strCells a ++ Lib.strCells b := by simp [Lib.strCells]
theorem strCells_mk (l : List UInt8) : Lib.strCells ⟨l.toArray⟩ = Lib.byteCells l := by simp [Lib.strCells, Lib.byteCells]
theorem u8info : (Tryd.prog.info? 5).map (fun i => (i.zero, i.size, i.bytes)) = some (some (.int .u8 0), 1, 1) := by kernel_rfl
theorem owns_form {w : World} {B e s n : Nat} {v : Value} {xs : List Value} (h : w.ownsRow B e s v n xs) : ∃ a c, v = .slice a n c := by
  rcases h.2 with ⟨hv, h0⟩ | ⟨g, cap, cur, hv, _⟩
  · exact ⟨none, 0, by rw [hv, h0]⟩
  · exact ⟨_, _, hv⟩
theorem owns_kind {w : World} {B e s n : Nat} {v : Value} {xs : List Value} (h : w.ownsRow B e s v n xs) : ∀ g, v.ownBlock = some g → B ≤ g ∧ g < w.heap.size ∧ ∃ c, w.heap[g]? = some (.cells c e (0, 0)) := fun g hg => by
  rcases h.2 with ⟨hv, h0⟩ | ⟨q, cap, cur, hv, hq, hb, _⟩
  · rw [hv] at hg; simp [Value.ownBlock] at hg
  · rw [hv] at hg
    simp [Value.ownBlock] at hg
    subst hg
    exact ⟨hq, blk_lt hb, _, hb⟩

theorem own_alloc {w : World} {B e s n : Nat} {v : Value} {xs : List Value} (h : w.ownsRow B e s v n xs) (o : Obj) : (w.alloc o).ownsRow B e s v n xs := by
  refine ⟨h.1, ?_⟩
  rcases h.2 with hn | ⟨q, cap, cur, hv, hq, hb, r⟩
  · exact .inl hn
  · exact .inr ⟨q, cap, cur, hv, hq, (Lib.alloc_old w o q (blk_lt hb)).trans hb, r⟩
theorem below_of_grown {w w' : World} {row : Option Nat} {B : Nat} (h : w.grownBy w' row) (hr : ∀ k, row = some k → B ≤ k) (hB : B ≤ w.heap.size) : Below B w w' :=
  ⟨h.os, h.tape, h.output, h.size, fun k hk => h.block k (by omega) (fun e => by have := hr k e.symm; omega)⟩
/-- What one append onto the writer's row, and a store into its field, leave. -/
theorem pk_put {w0 w W W1 : World} {g : Nat} {f1 : ByteArray} {v v1 : Value} (hk : KeepBut w W g none) (hB : Below w0.heap.size w0 W) (hg : w0.heap.size ≤ g)
    (hb : W.heap[g]? = some (.cells #[v] 25 (0, 0))) (hbl : Below (g + 1) W W1) (hot : Lib.OthersKept 5 none W W1) (hown : W1.ownsRow (g + 1) 5 1 v1 f1.size (Lib.strCells f1)) :
    (W1.setCell ⟨g, 0, none⟩ v1).heap[g]? = some (.cells #[v1] 25 (0, 0)) ∧ (W1.setCell ⟨g, 0, none⟩ v1).ownsRow (g + 1) 5 1 v1 f1.size (Lib.strCells f1) ∧ Below w0.heap.size w0 (W1.setCell ⟨g, 0, none⟩ v1) ∧ KeepBut w (W1.setCell ⟨g, 0, none⟩ v1) g none := by
  have hlt := blk_lt hb
  have hb1 : W1.heap[g]? = some (.cells #[v] 25 (0, 0)) := (hbl.block g (by omega)).trans hb
  refine ⟨by simpa using blk_set hb1 0 v1, ⟨hown.1, ?_⟩, (hB.trans (hbl.mono (by omega))).setCell (p := ⟨g, 0, none⟩) hg _, ?_⟩
  · rcases hown.2 with hn | ⟨q, cap, cur, hv, hq, hb2, r⟩
    · exact .inl hn
    · refine .inr ⟨q, cap, cur, hv, hq, ?_, r⟩
      rw [Below.heap_setCell _ _ _ _ (by show q ≠ g; omega)]
      exact hb2
  · refine KeepBut.set_ (hk.trans (row1 := none) ⟨hbl.size, fun i hi hne _ hcase => ?_⟩ (.inl rfl)) 0 v1
    rcases hcase with h | h
    · exact hbl.block i (by omega)
    · obtain ⟨o, ho⟩ : ∃ o, W.heap[i]? = some o := ⟨_, Array.getElem?_eq_getElem hi⟩
      rw [ho]
      exact hot i o ho (by simp) (fun c fz e => h c fz (by rw [ho, e]; rfl))

theorem u8cells (w : World) (c : Int) (n : Nat) (hn : n = w.heap.size) : ∀ j u, ([.int .u8 c] : List Value)[j]? = some u → (w.alloc (.cells #[.int .u8 c] 5)).cell? ((⟨n, 0, none⟩ : Addr).add j) = some u := by
  subst hn
  intro j u hj
  match j, hj with
  | 0, hj => simp at hj; subst hj; simp [Addr.add]
theorem u8one (c : Int) : ∀ u ∈ ([.int .u8 c] : List Value), u.oneCell' = true := by
  intro u hu; simp at hu; subst hu; rfl
/-- One byte more, onto the writer's row, in a new world w2. -/
theorem pk_byte {w w2 : World} {g n : Nat} {v : Value} {xs : List Value} {c : Int} (hown : w.ownsRow (g + 1) 5 1 v n xs) (hlt : g < w.heap.size) (hgrow : (w.alloc (.cells #[.int .u8 c] 5)).grownBy w2 v.ownBlock) : Below (g + 1) w w2 ∧ Lib.OthersKept 5 none w w2 := by
  have hown1 := own_alloc hown (.cells #[.int .u8 c] 5)
  exact ⟨((Below.refl _ _).alloc (by omega) _).trans (below_of_grown hgrow (fun k hk => (owns_kind hown1 k hk).1) (by simp; omega)), ((Lib.OthersKept.refl _ _ _).alloc _).grown hgrow (fun k hk => by obtain ⟨_, _, c, hc⟩ := owns_kind hown1 k hk; exact ⟨c, _, hc⟩)⟩
theorem pk_str {w w2 : World} {g n : Nat} {v : Value} {xs : List Value} (hown : w.ownsRow (g + 1) 5 1 v n xs) (hlt : g < w.heap.size) (hgrow : w.grownBy w2 v.ownBlock) : Below (g + 1) w w2 ∧ Lib.OthersKept 5 none w w2 :=
  ⟨below_of_grown hgrow (fun k hk => (owns_kind hown k hk).1) (by omega), (Lib.OthersKept.refl _ _ _).grown hgrow (fun k hk => by obtain ⟨_, _, c, hc⟩ := owns_kind hown k hk; exact ⟨c, _, hc⟩)⟩
theorem size_byte (s : ByteArray) (c : UInt8) : (s ++ (⟨#[c]⟩ : ByteArray)).size = s.size + 1 := by rw [ByteArray.size_append]; rfl
theorem size_l (s : ByteArray) (l : List UInt8) : (s ++ (⟨l.toArray⟩ : ByteArray)).size = s.size + l.length := by rw [ByteArray.size_append]; show _ + l.toArray.size = _; rw [List.size_toArray]

def pack_Writer_Open.f (s0_0 : ByteArray) : Option ByteArray := if s0_0.size ≤ 1000000000000 then some (s0_0 ++ (⟨#[40]⟩ : ByteArray)) else none
set_option maxHeartbeats 2000000 in
set_option maxRecDepth 100000 in
theorem pack_Writer_Open.calls (g : Nat) (s0_0 : ByteArray) (r : ByteArray) (w0 w : World) (hI : IsS25 w0 w g s0_0) (hB : Below w0.heap.size w0 w) (_hT : TB w0) (h : pack_Writer_Open.f s0_0 = some r) :
    Calls Tryd.prog 33 #[.pointer (some ⟨g, 0, none⟩)] w fun e w' => e = .returned (.tuple #[]) ∧ IsS25 w0 w' g r ∧ Below w0.heap.size w0 w' ∧ KeepBut w w' g none := by
  unfold pack_Writer_Open.f at h
  split at h <;> cases h
  obtain ⟨v, hb, hown, hg⟩ := hI
  obtain ⟨i0, hi, hz0, hz1, hz2⟩ := info_parts u8info
  have hu := Tryd.underlying25
  have c0 : w.cell? ⟨g, 0, none⟩ = some v := (blk_cell hb 0).trans rfl
  have hlt := blk_lt hb
  obtain ⟨ao, ca, rfl⟩ := owns_form hown
  go_enter Tryd.func33, Tryd.ntmps33
  go_wp2_with (at_builtin; refine wpList_append_own _ rfl _ _ 23 rfl (g + 1) 5 i0 (.int .u8 0) 1 1 Tryd.underlying23 hi hz0 hz1 hz2 rfl (by decide) _ _ _ rfl (own_alloc hown _) ⟨w.heap.size, 0, none⟩ 1 1 [.int .u8 40] rfl rfl (u8cells _ _ _ (by simp)) (u8one _) (by unfold maxLen; omega) (by omega) (by simp; omega) ?_)
  intro v' w2 hown' hgrow _
  obtain ⟨hbl, hot⟩ := pk_byte hown hlt hgrow
  have hb2 : w2.heap[g]? = some (.cells #[.slice ao s0_0.size ca] 25 (0, 0)) := (hbl.block g (by omega)).trans hb
  have f0 := blk_frozen hb2 0
  obtain ⟨h1, h2, h3, h4⟩ := pk_put (f1 := s0_0 ++ (⟨#[40]⟩ : ByteArray)) (KeepBut.refl w g none) hB hg hb hbl hot (by rw [strCells_join, size_byte]; exact hown')
  obtain ⟨a2, c2, rfl⟩ := owns_form hown'
  have d0 : w2.cell? ⟨g, 0, none⟩ = some (.slice ao s0_0.size ca) := (blk_cell hb2 0).trans rfl
  go_wp2
  first | go_end0 | ((try simp only [Exit.inBlock, Exit.then]); refine bodyPost_ret (results_none rfl _ _ _) rfl ?_)
  exact ⟨rfl, ⟨_, h1, h2, hg⟩, h3, h4⟩

def pack_Writer_Close.f (s0_0 : ByteArray) : Option ByteArray := if s0_0.size ≤ 1000000000000 then some (s0_0 ++ (⟨#[41]⟩ : ByteArray)) else none
set_option maxHeartbeats 2000000 in
set_option maxRecDepth 100000 in
theorem pack_Writer_Close.calls (g : Nat) (s0_0 : ByteArray) (r : ByteArray) (w0 w : World) (hI : IsS25 w0 w g s0_0) (hB : Below w0.heap.size w0 w) (_hT : TB w0) (h : pack_Writer_Close.f s0_0 = some r) :
    Calls Tryd.prog 22 #[.pointer (some ⟨g, 0, none⟩)] w fun e w' => e = .returned (.tuple #[]) ∧ IsS25 w0 w' g r ∧ Below w0.heap.size w0 w' ∧ KeepBut w w' g none := by
  unfold pack_Writer_Close.f at h
  split at h <;> cases h
  obtain ⟨v, hb, hown, hg⟩ := hI
  obtain ⟨i0, hi, hz0, hz1, hz2⟩ := info_parts u8info
  have hu := Tryd.underlying25
  have c0 : w.cell? ⟨g, 0, none⟩ = some v := (blk_cell hb 0).trans rfl
  have hlt := blk_lt hb
  obtain ⟨ao, ca, rfl⟩ := owns_form hown
  go_enter Tryd.func22, Tryd.ntmps22
  go_wp2_with (at_builtin; refine wpList_append_own _ rfl _ _ 23 rfl (g + 1) 5 i0 (.int .u8 0) 1 1 Tryd.underlying23 hi hz0 hz1 hz2 rfl (by decide) _ _ _ rfl (own_alloc hown _) ⟨w.heap.size, 0, none⟩ 1 1 [.int .u8 41] rfl rfl (u8cells _ _ _ (by simp)) (u8one _) (by unfold maxLen; omega) (by omega) (by simp; omega) ?_)
  intro v' w2 hown' hgrow _
  obtain ⟨hbl, hot⟩ := pk_byte hown hlt hgrow
  have hb2 : w2.heap[g]? = some (.cells #[.slice ao s0_0.size ca] 25 (0, 0)) := (hbl.block g (by omega)).trans hb
  have f0 := blk_frozen hb2 0
  obtain ⟨h1, h2, h3, h4⟩ := pk_put (f1 := s0_0 ++ (⟨#[41]⟩ : ByteArray)) (KeepBut.refl w g none) hB hg hb hbl hot (by rw [strCells_join, size_byte]; exact hown')
  obtain ⟨a2, c2, rfl⟩ := owns_form hown'
  have d0 : w2.cell? ⟨g, 0, none⟩ = some (.slice ao s0_0.size ca) := (blk_cell hb2 0).trans rfl
  go_wp2
  first | go_end0 | ((try simp only [Exit.inBlock, Exit.then]); refine bodyPost_ret (results_none rfl _ _ _) rfl ?_)
  exact ⟨rfl, ⟨_, h1, h2, hg⟩, h3, h4⟩

def i64ok (a : Int) : Bool := decide (-9223372036854775808 ≤ a) && decide (a ≤ 9223372036854775807)
def pack_Writer_Int.f (s0_0 : ByteArray) (a1 : Int) : Option ByteArray := if s0_0.size ≤ 1000000000000 then (if i64ok a1 then some (s0_0 ++ (⟨#[105]⟩ : ByteArray) ++ (⟨(Lib.itoa a1).toArray⟩ : ByteArray) ++ (⟨#[59]⟩ : ByteArray)) else none) else none
set_option maxHeartbeats 4000000 in
set_option maxRecDepth 100000 in
theorem pack_Writer_Int.calls (g : Nat) (s0_0 : ByteArray) (a1 : Int) (r : ByteArray) (w0 w : World) (hI : IsS25 w0 w g s0_0) (hB : Below w0.heap.size w0 w) (hT : TB w0) (h : pack_Writer_Int.f s0_0 a1 = some r) :
    Calls Tryd.prog 31 #[.pointer (some ⟨g, 0, none⟩), .int .i64 a1] w fun e w' => e = .returned (.tuple #[]) ∧ IsS25 w0 w' g r ∧ Below w0.heap.size w0 w' ∧ KeepBut w w' g none := by
  unfold pack_Writer_Int.f at h
  split at h <;> try cases h
  split at h <;> cases h
  rename_i hs ha
  simp only [i64ok, Bool.and_eq_true, decide_eq_true_eq] at ha
  have hil := Lib.itoa_length_le a1 ha.1 ha.2
  obtain ⟨v, hb, hown, hg⟩ := hI
  obtain ⟨i0, hi, hz0, hz1, hz2⟩ := info_parts u8info
  have hu := Tryd.underlying25
  have c0 : w.cell? ⟨g, 0, none⟩ = some v := (blk_cell hb 0).trans rfl
  have hlt := blk_lt hb
  obtain ⟨ao, ca, rfl⟩ := owns_form hown
  go_enter Tryd.func31, Tryd.ntmps31
  go_wp2_with (at_builtin; refine wpList_append_own _ rfl _ _ 23 rfl (g + 1) 5 i0 (.int .u8 0) 1 1 Tryd.underlying23 hi hz0 hz1 hz2 rfl (by decide) _ _ _ rfl (own_alloc hown _) ⟨w.heap.size, 0, none⟩ 1 1 [.int .u8 105] rfl rfl (u8cells _ _ _ (by simp)) (u8one _) (by unfold maxLen; omega) (by omega) (by simp; omega) ?_)
  intro v' w2 hown' hgrow _
  obtain ⟨hbl, hot⟩ := pk_byte hown hlt hgrow
  have hb2 : w2.heap[g]? = some (.cells #[.slice ao s0_0.size ca] 25 (0, 0)) := (hbl.block g (by omega)).trans hb
  have f0 := blk_frozen hb2 0
  obtain ⟨h1, h2, h3, h4⟩ := pk_put (f1 := s0_0 ++ (⟨#[105]⟩ : ByteArray)) (KeepBut.refl w g none) hB hg hb hbl hot (by rw [strCells_join, size_byte]; exact hown')
  obtain ⟨a2, c2, rfl⟩ := owns_form hown'
  have d0 : w2.cell? ⟨g, 0, none⟩ = some (.slice ao s0_0.size ca) := (blk_cell hb2 0).trans rfl
  clear hown' hgrow hbl hot hb hown c0 hB
  have hlt2 := blk_lt h1
  rw [size_byte] at h2
  go_wp2_with (go_at_call 46; refine (Tryd.strconv_AppendInt_10 (g + 1) (s0_0.size + 1) a1 ha.1 ha.2 _ _ _ h2 (by omega) (by omega) (pk_tab hT h3 hg)).mono ?_)
  rintro e w3 ⟨v3, rfl, hown3, hbl3, hot3⟩
  have hb3 := (hbl3.block g (by omega)).trans h1
  have f03 := blk_frozen hb3 0
  have hsz2 : (s0_0 ++ (⟨#[105]⟩ : ByteArray) ++ (⟨(Lib.itoa a1).toArray⟩ : ByteArray)).size = s0_0.size + 1 + (Lib.itoa a1).length := by rw [size_l, size_byte]
  obtain ⟨k1, k2, k3, k4⟩ := pk_put (f1 := s0_0 ++ (⟨#[105]⟩ : ByteArray) ++ (⟨(Lib.itoa a1).toArray⟩ : ByteArray)) h4 h3 hg h1 hbl3 hot3 (by rw [hsz2, strCells_join, strCells_mk]; exact hown3)
  obtain ⟨a3, c3, rfl⟩ := owns_form hown3
  have d3 : w3.cell? ⟨g, 0, none⟩ = some (.slice a2 (s0_0.size + 1) c2) := (blk_cell hb3 0).trans rfl
  have hlt3 := blk_lt k1
  clear h1 h2 h3 h4 hbl3 hot3 hown3 hb2 d0 f0 hlt2
  rw [hsz2] at k2
  go_wp2_with (at_builtin; refine wpList_append_own _ rfl _ _ 23 rfl (g + 1) 5 i0 (.int .u8 0) 1 1 Tryd.underlying23 hi hz0 hz1 hz2 rfl (by decide) _ _ _ rfl (own_alloc k2 _) ⟨w3.heap.size, 0, none⟩ 1 1 [.int .u8 59] rfl rfl (u8cells _ _ _ (by simp)) (u8one _) (by unfold maxLen; omega) (by omega) (by simp; simp at hlt3; omega) ?_)
  intro v4 w4 hown4 hgrow4 _
  obtain ⟨hbl4, hot4⟩ := pk_byte k2 hlt3 hgrow4
  have hb4 := (hbl4.block g (by omega)).trans k1
  have f04 := blk_frozen hb4 0
  obtain ⟨m1, m2, m3, m4⟩ := pk_put (f1 := s0_0 ++ (⟨#[105]⟩ : ByteArray) ++ (⟨(Lib.itoa a1).toArray⟩ : ByteArray) ++ (⟨#[59]⟩ : ByteArray)) k4 k3 hg k1 hbl4 hot4 (by rw [strCells_join, size_byte, hsz2]; exact hown4)
  obtain ⟨a4, c4, rfl⟩ := owns_form hown4
  have d4 : w4.cell? ⟨g, 0, none⟩ = some (.slice a3 (s0_0.size + 1 + (Lib.itoa a1).length) c3) := (blk_cell hb4 0).trans rfl
  go_wp2
  first | go_end0 | ((try simp only [Exit.inBlock, Exit.then]); refine bodyPost_ret (results_none rfl _ _ _) rfl ?_)
  exact ⟨rfl, ⟨_, m1, m2, hg⟩, m3, m4⟩

def pack_Writer_Text.f (s0_0 : ByteArray) (a1 : ByteArray) : Option ByteArray := if s0_0.size ≤ 1000000000000 then (if a1.size ≤ 1000000000000 then some (s0_0 ++ (⟨(Lib.itoa (a1.size : Int)).toArray⟩ : ByteArray) ++ (⟨#[58]⟩ : ByteArray) ++ a1) else none) else none
set_option maxHeartbeats 4000000 in
set_option maxRecDepth 100000 in
theorem pack_Writer_Text.calls (g : Nat) (s0_0 : ByteArray) (a1 : ByteArray) (r : ByteArray) (w0 w : World) (hI : IsS25 w0 w g s0_0) (hB : Below w0.heap.size w0 w) (hT : TB w0) (h : pack_Writer_Text.f s0_0 a1 = some r) :
    Calls Tryd.prog 32 #[.pointer (some ⟨g, 0, none⟩), .string a1] w fun e w' => e = .returned (.tuple #[]) ∧ IsS25 w0 w' g r ∧ Below w0.heap.size w0 w' ∧ KeepBut w w' g none := by
  unfold pack_Writer_Text.f at h
  split at h <;> try cases h
  split at h <;> cases h
  rename_i hs ha
  have hil := Lib.itoa_length_le (a1.size : Int) (by omega) (by omega)
  obtain ⟨v, hb, hown, hg⟩ := hI
  obtain ⟨i0, hi, hz0, hz1, hz2⟩ := info_parts u8info
  have hu := Tryd.underlying25
  have c0 : w.cell? ⟨g, 0, none⟩ = some v := (blk_cell hb 0).trans rfl
  have hlt := blk_lt hb
  obtain ⟨ao, ca, rfl⟩ := owns_form hown
  go_enter Tryd.func32, Tryd.ntmps32
  go_wp2_with (go_at_call 46; refine (Tryd.strconv_AppendInt_10 (g + 1) s0_0.size (a1.size : Int) (by omega) (by omega) _ _ _ hown (by omega) (by omega) (pk_tab hT hB hg)).mono ?_)
  rintro e w3 ⟨v3, rfl, hown3, hbl3, hot3⟩
  have hb3 := (hbl3.block g (by omega)).trans hb
  have f03 := blk_frozen hb3 0
  have hsz2 : (s0_0 ++ (⟨(Lib.itoa (a1.size : Int)).toArray⟩ : ByteArray)).size = s0_0.size + (Lib.itoa (a1.size : Int)).length := by rw [size_l]
  obtain ⟨k1, k2, k3, k4⟩ := pk_put (f1 := s0_0 ++ (⟨(Lib.itoa (a1.size : Int)).toArray⟩ : ByteArray)) (KeepBut.refl w g none) hB hg hb hbl3 hot3 (by rw [hsz2, strCells_join, strCells_mk]; exact hown3)
  obtain ⟨a3, c3, rfl⟩ := owns_form hown3
  have d3 : w3.cell? ⟨g, 0, none⟩ = some (.slice ao s0_0.size ca) := (blk_cell hb3 0).trans rfl
  have hlt3 := blk_lt k1
  clear hbl3 hot3 hown3 hb hown c0 hB
  rw [hsz2] at k2
  go_wp2_with (at_builtin; refine wpList_append_own _ rfl _ _ 23 rfl (g + 1) 5 i0 (.int .u8 0) 1 1 Tryd.underlying23 hi hz0 hz1 hz2 rfl (by decide) _ _ _ rfl (own_alloc k2 _) ⟨w3.heap.size, 0, none⟩ 1 1 [.int .u8 58] rfl rfl (u8cells _ _ _ (by simp)) (u8one _) (by unfold maxLen; omega) (by omega) (by simp; simp at hlt3; omega) ?_)
  intro v4 w4 hown4 hgrow4 _
  obtain ⟨hbl4, hot4⟩ := pk_byte k2 hlt3 hgrow4
  have hb4 := (hbl4.block g (by omega)).trans k1
  have f04 := blk_frozen hb4 0
  obtain ⟨m1, m2, m3, m4⟩ := pk_put (f1 := s0_0 ++ (⟨(Lib.itoa (a1.size : Int)).toArray⟩ : ByteArray) ++ (⟨#[58]⟩ : ByteArray)) k4 k3 hg k1 hbl4 hot4 (by rw [strCells_join, size_byte, hsz2]; exact hown4)
  obtain ⟨a4, c4, rfl⟩ := owns_form hown4
  have d4 : w4.cell? ⟨g, 0, none⟩ = some (.slice a3 (s0_0.size + (Lib.itoa (a1.size : Int)).length) c3) := (blk_cell hb4 0).trans rfl
  have hlt4 := blk_lt m1
  clear hbl4 hot4 hown4 hgrow4 k1 k2 k3 k4 hb3 d3 f03 hlt3
  rw [size_byte, hsz2] at m2
  go_wp2_with (at_builtin; refine Lib.wpList_append_own_string _ rfl _ _ 23 9 rfl (g + 1) 5 i0 Tryd.underlying23 (by kernel_rfl) hi hz0 hz1 hz2 _ _ _ rfl m2 a1 rfl (by unfold maxLen; omega) (by omega) (by omega) ?_)
  intro v5 w5 hown5 hgrow5 _
  obtain ⟨hbl5, hot5⟩ := pk_str m2 hlt4 hgrow5
  have hb5 := (hbl5.block g (by omega)).trans m1
  have f05 := blk_frozen hb5 0
  obtain ⟨n1, n2, n3, n4⟩ := pk_put (f1 := s0_0 ++ (⟨(Lib.itoa (a1.size : Int)).toArray⟩ : ByteArray) ++ (⟨#[58]⟩ : ByteArray) ++ a1) m4 m3 hg m1 hbl5 hot5 (by rw [strCells_join, ByteArray.size_append, size_byte, hsz2]; exact hown5)
  obtain ⟨a5, c5, rfl⟩ := owns_form hown5
  have d5 : w5.cell? ⟨g, 0, none⟩ = some (.slice a4 (s0_0.size + (Lib.itoa (a1.size : Int)).length + 1) c4) := (blk_cell hb5 0).trans rfl
  go_wp2
  first | go_end0 | ((try simp only [Exit.inBlock, Exit.then]); refine bodyPost_ret (results_none rfl _ _ _) rfl ?_)
  exact ⟨rfl, ⟨_, n1, n2, hg⟩, n3, n4⟩

def pack_Writer_Bytes.f (s0_0 : ByteArray) : Option (ByteArray × ByteArray) := if s0_0.size ≤ 1000000000000 then some (s0_0, s0_0) else none
set_option maxHeartbeats 2000000 in
set_option maxRecDepth 100000 in
theorem pack_Writer_Bytes.calls (g : Nat) (s0_0 : ByteArray) (r1 r2 : ByteArray) (w0 w : World) (hI : IsS25 w0 w g s0_0) (hB : Below w0.heap.size w0 w) (_hT : TB w0) (h : pack_Writer_Bytes.f s0_0 = some (r1, r2)) :
    Calls Tryd.prog 14 #[.pointer (some ⟨g, 0, none⟩)] w fun e w' => e = .returned (.string r1) ∧ IsS25 w0 w' g r2 ∧ Below w0.heap.size w0 w' ∧ KeepBut w w' g none := by
  unfold pack_Writer_Bytes.f at h
  split at h <;> cases h
  obtain ⟨v, hb, hown, hg⟩ := id hI
  have hu := Tryd.underlying25
  have c0 : w.cell? ⟨g, 0, none⟩ = some v := (blk_cell hb 0).trans rfl
  obtain ⟨ao, ca, rfl⟩ := owns_form hown
  have hcv : (convert 23 9 (.slice ao s0_0.size ca)).run Tryd.prog w = .ok (.string s0_0) w := by
    rcases hown.2 with ⟨hv, h0⟩ | ⟨q, cap, cur, hv, _⟩
    · injection hv with h1 h2 h3
      subst h1
      rw [run_convert_bytes_nil w 23 5 (by kernel_rfl) (by kernel_rfl) s0_0.size ca 9 (by kernel_rfl)]
      have hz : s0_0 = ByteArray.empty := by
        have h0' : s0_0.data.size = 0 := h0
        have : s0_0.data = #[] := Array.eq_empty_of_size_eq_zero h0'
        cases s0_0
        simp at this
        subst this
        rfl
      rw [hz]
    · injection hv with h1 h2 h3
      subst h1
      have h := run_convert_bytes_back (P := Tryd.prog) w 23 9 5 ⟨q, 0, none⟩ ca s0_0.data.toList (by kernel_rfl) (by kernel_rfl) (by kernel_rfl) (fun j hj => hown.cells (g := q) rfl j _ (by simp [Lib.strCells, List.getElem?_eq_getElem hj]))
      have hl : s0_0.data.toList.length = s0_0.size := Array.length_toList
      rw [hl] at h
      exact h
  go_enter Tryd.func14, Tryd.ntmps14
  go_wp2
  go_ret
  exact ⟨rfl, hI, hB, KeepBut.refl w g none⟩
end Go.Proofs.YtghabadccaghcaaDoor.Pr
