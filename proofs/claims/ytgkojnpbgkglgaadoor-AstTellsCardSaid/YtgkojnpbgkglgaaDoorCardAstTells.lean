/- The law AstTells: whatever the arguments, the call returns true; the row and its tied card. The listed variables start as the program's text lays them. -/
import Derived.Test.YtgkojnpbgkglgaaDoorCards
import Derived.Test.YtgkojnpbgkglgaaDoorTie
import Derived.Test.YtgkojnpbgkglgaaDoorPuAstTells
import Derived.Test.YtgkojnpbgkglgaaDoorRows0
import Derived.WalkKit
import Derived.ProofKit
import Derived.OpenShut
import Derived.ShutString
import Derived.ChangeOld
import Derived.Below
import Derived.SizedLaws
import Derived.LaidSub
import Derived.Deep.DeepHandedRow
import Derived.Lib.LaidTab
import Derived.Lib.SmallJoins
namespace Go.Proofs.YtgkojnpbgkglgaaDoor.astTells
open Go Go.ChangeShapes Go.WideShapes Go.ChangeAt Go.RowKit
open Go.ChangeMaps (open_string shut_string)
open Go.Joins (open_agg2 open_agg3 open_agg4 shut_agg2 shut_agg3 shut_agg4 field_of_Trod)
open Go.Proofs.YtgkojnpbgkglgaaDoorW.PrintWords Go.Proofs.YtgkojnpbgkglgaaDoor.Pr

theorem own : ownKnob Tryd.prog.godebug = none := by kernel_rfl
mutual
def flat : DataW Unit → List Value
  | .lit (.int k n) => [.int k n]
  | .agg l => flats l
  | _ => []
def flats : List (DataW Unit) → List Value
  | [] => []
  | d :: r => flat d ++ flats r
end
theorem laidOut : laidOutB Tryd.prog = true := by kernel_rfl
theorem gTabType : (Tryd.prog.globals[0]?).map (·.type) = some 89 := by kernel_rfl
theorem laidSame : Rows.astTellsRow.laid.filter (fun x => x.1 == "internal/strconv.uint64pow10") = [("internal/strconv.uint64pow10", Lib.tabData .u64 Lib.pow10Tab)] := by kernel_rfl
/-- The list gives the table. -/
theorem table {W : World} (h : laidMetH Tryd.prog Rows.astTellsRow.laid W) : TB W := by
  have h1 := laidMetH.filter (fun x => x.1 == "internal/strconv.uint64pow10") h
  rw [laidSame] at h1
  exact ⟨Lib.tabIs_of_head (rest := []) tb_glob gTabType Tryd.underlying89 Tryd.underlying77 (by kernel_rfl) (by kernel_rfl) h1⟩

set_option maxRecDepth 100000 in
theorem contract (H : Type) (enc : TypeId × Value → H) (W : World) (base : Nat) (args : Array Value) (ds gs : List (DataW H)) (before : List MemPlace)
    (hval : ∀ (j : Nat) t v, Tryd.f7.params[j]? = some t → args[j]? = some v → Value.okWide Tryd.prog W .any base t v)
    (hW : DataW.Whole enc Tryd.prog Tryd.f7.params.toList Rows.astTellsSpec.vars false W args.toList ds gs before)
    (hsz : (DataW.weightsEach Tryd.prog (Tryd.f7.params.toList ++ Rows.astTellsSpec.plain.varTypes Tryd.prog) (ds ++ gs)).all (· ≤ reachBytes) = true) (hT : TB W) :
    Calls Tryd.prog 7 args W fun e W' => ∃ v, e = .returned v ∧ Rows.astTellsSpec.post enc Tryd.prog Tryd.f7 false true false false W args v W' := by
  have hW' := hW
  obtain ⟨p, q, hA0, hV, rfl, hfz, hnd⟩ := hW
  have hA : DataW.TrodAll enc Tryd.prog W 0 (fun _ => true) true Tryd.f7.params.toList args.toList ds p := hA0
  rw [Tryd.params7] at hA hval hsz
  obtain ⟨v0, vs0, d0, ds0, p0, q0, hargs, rfl, rfl, h0, r0⟩ := trodAll_cons hA
  obtain ⟨v1, vs1, d1, ds1, p1, q1, rfl, rfl, rfl, h1, r1⟩ := trodAll_cons r0
  obtain ⟨v2, vs2, d2, ds2, p2, q2, rfl, rfl, rfl, h2, r2⟩ := trodAll_cons r1
  obtain ⟨v3, vs3, d3, ds3, p3, q3, rfl, rfl, rfl, h3, r3⟩ := trodAll_cons r2
  obtain ⟨rfl, rfl, rfl⟩ := trodAll_nil r3
  obtain rfl : args = #[v0, v1, v2, v3] := by cases args; simp_all
  obtain ⟨rfl, rfl⟩ := trodVars_none hV
  obtain ⟨A0, len0, cap0, rfl⟩ := okWide_slice Tryd.underlying22 (hval 0 22 v0 rfl rfl)
  have k0 := h0
  have lt0 : ∀ x ∈ p0, x.block < W.heap.size := by obtain ⟨m, hm⟩ := k0; exact DataW.trod_lt m _ _ _ hm
  obtain ⟨l0, rfl, hr0, hc0⟩ : ∃ l : List Pr.S42, len0 = l.length ∧ Kd.C Pr.k42 W A0 l.length l ∧ l.length ≤ cap0 := by
    obtain ⟨fuel, hf⟩ := h0
    rcases rows_fields Tryd.underlying22 Tryd.underlying42 (by kernel_rfl) (by kernel_rfl) hf with hcs | ⟨ad, l, c, hcs, hl, hm, hi⟩
    · simp only [Value.cells, List.cons.injEq, Value.slice.injEq, and_true] at hcs
      obtain ⟨rfl, rfl, rfl⟩ := hcs
      exact ⟨[], rfl, ⟨rfl, by simp, fun h => absurd h (Nat.lt_irrefl 0)⟩, Nat.le_refl _⟩
    · simp only [Value.cells, List.cons.injEq, Value.slice.injEq, and_true] at hcs
      obtain ⟨rfl, rfl, rfl⟩ := hcs
      obtain ⟨xs, hx, hp⟩ := listOf len0 (fun i (x : Pr.S42) => W.cell? (ad.add (i * 4 + 0)) = some (.string x.f0) ∧ W.cell? (ad.add (i * 4 + 1)) = some (.string x.f1) ∧ W.cell? (ad.add (i * 4 + 2)) = some (.int .i64 x.f2) ∧ W.cell? (ad.add (i * 4 + 3)) = some (.int .i64 x.f3)) (fun i hi' => by
        obtain ⟨n, hf⟩ := hi i hi'
        obtain ⟨u0, y0, c0, t0⟩ := hf 0 _ rfl
        obtain ⟨z0, e0, _, _⟩ := DataW.trod_string Tryd.underlying9 t0
        injection e0 with e0 _
        subst e0
        obtain ⟨u1, y1, c1, t1⟩ := hf 1 _ rfl
        obtain ⟨z1, e1, _, _⟩ := DataW.trod_string Tryd.underlying9 t1
        injection e1 with e1 _
        subst e1
        obtain ⟨u2, y2, c2, t2⟩ := hf 2 _ rfl
        obtain ⟨z2, e2, _, _⟩ := DataW.trod_int Tryd.underlying3 t2
        injection e2 with e2 _
        subst e2
        obtain ⟨u3, y3, c3, t3⟩ := hf 3 _ rfl
        obtain ⟨z3, e3, _, _⟩ := DataW.trod_int Tryd.underlying3 t3
        injection e3 with e3 _
        subst e3
        exact ⟨⟨z0, z1, z2, z3⟩, c0, c1, c2, c3⟩)
      refine ⟨xs, hx.symm, ⟨rfl, by rw [hx]; unfold maxLen at hm; omega, fun _ => ⟨ad, rfl, fun q x hq => ?_⟩⟩, by rw [hx]; exact hl⟩
      obtain ⟨c0, c1, c2, c3⟩ := hp q x hq
      refine ⟨_, rfl, Pr.k42_mk _ x, fun i u hu => ?_⟩
      match i, hu with
      | 0, hu => obtain rfl := Option.some.inj hu; exact c0
      | 1, hu => obtain rfl := Option.some.inj hu; exact c1
      | 2, hu => obtain rfl := Option.some.inj hu; exact c2
      | 3, hu => obtain rfl := Option.some.inj hu; exact c3
      | (i + 4), hu => simp at hu
  obtain ⟨A1, len1, cap1, rfl⟩ := okWide_slice Tryd.underlying22 (hval 1 22 v1 rfl rfl)
  have k1 := h1
  have lt1 : ∀ x ∈ p1, x.block < W.heap.size := by obtain ⟨m, hm⟩ := k1; exact DataW.trod_lt m _ _ _ hm
  obtain ⟨l1, rfl, hr1, hc1⟩ : ∃ l : List Pr.S42, len1 = l.length ∧ Kd.C Pr.k42 W A1 l.length l ∧ l.length ≤ cap1 := by
    obtain ⟨fuel, hf⟩ := h1
    rcases rows_fields Tryd.underlying22 Tryd.underlying42 (by kernel_rfl) (by kernel_rfl) hf with hcs | ⟨ad, l, c, hcs, hl, hm, hi⟩
    · simp only [Value.cells, List.cons.injEq, Value.slice.injEq, and_true] at hcs
      obtain ⟨rfl, rfl, rfl⟩ := hcs
      exact ⟨[], rfl, ⟨rfl, by simp, fun h => absurd h (Nat.lt_irrefl 0)⟩, Nat.le_refl _⟩
    · simp only [Value.cells, List.cons.injEq, Value.slice.injEq, and_true] at hcs
      obtain ⟨rfl, rfl, rfl⟩ := hcs
      obtain ⟨xs, hx, hp⟩ := listOf len1 (fun i (x : Pr.S42) => W.cell? (ad.add (i * 4 + 0)) = some (.string x.f0) ∧ W.cell? (ad.add (i * 4 + 1)) = some (.string x.f1) ∧ W.cell? (ad.add (i * 4 + 2)) = some (.int .i64 x.f2) ∧ W.cell? (ad.add (i * 4 + 3)) = some (.int .i64 x.f3)) (fun i hi' => by
        obtain ⟨n, hf⟩ := hi i hi'
        obtain ⟨u0, y0, c0, t0⟩ := hf 0 _ rfl
        obtain ⟨z0, e0, _, _⟩ := DataW.trod_string Tryd.underlying9 t0
        injection e0 with e0 _
        subst e0
        obtain ⟨u1, y1, c1, t1⟩ := hf 1 _ rfl
        obtain ⟨z1, e1, _, _⟩ := DataW.trod_string Tryd.underlying9 t1
        injection e1 with e1 _
        subst e1
        obtain ⟨u2, y2, c2, t2⟩ := hf 2 _ rfl
        obtain ⟨z2, e2, _, _⟩ := DataW.trod_int Tryd.underlying3 t2
        injection e2 with e2 _
        subst e2
        obtain ⟨u3, y3, c3, t3⟩ := hf 3 _ rfl
        obtain ⟨z3, e3, _, _⟩ := DataW.trod_int Tryd.underlying3 t3
        injection e3 with e3 _
        subst e3
        exact ⟨⟨z0, z1, z2, z3⟩, c0, c1, c2, c3⟩)
      refine ⟨xs, hx.symm, ⟨rfl, by rw [hx]; unfold maxLen at hm; omega, fun _ => ⟨ad, rfl, fun q x hq => ?_⟩⟩, by rw [hx]; exact hl⟩
      obtain ⟨c0, c1, c2, c3⟩ := hp q x hq
      refine ⟨_, rfl, Pr.k42_mk _ x, fun i u hu => ?_⟩
      match i, hu with
      | 0, hu => obtain rfl := Option.some.inj hu; exact c0
      | 1, hu => obtain rfl := Option.some.inj hu; exact c1
      | 2, hu => obtain rfl := Option.some.inj hu; exact c2
      | 3, hu => obtain rfl := Option.some.inj hu; exact c3
      | (i + 4), hu => simp at hu
  obtain ⟨a2, rfl, rfl, rfl, y2⟩ := open_string Tryd.underlying9 (hval 2 9 v2 rfl rfl) h2
  have w2 : a2.size ≤ 140737488351232 := by
    have z := sized_string hsz (j := 2) (t := 9) rfl rfl
    rw [Array.length_toList] at z
    exact z
  obtain ⟨a3, rfl, rfl, rfl, w3⟩ := open_int Tryd.underlying3 (hval 3 3 v3 rfl rfl) h3
  clear hA0 hval hsz
  obtain ⟨k, h⟩ := Ev.rounds (AstTells_ev l0 l1 a2 a3 w2 w3)
  refine (Pr.scribelaw12_AstTells.calls k A0 cap0 l0 A1 cap1 l1 a2 a3 true W hr0 hc0 hr1 hc1 hT h).mono fun e W' ⟨he, bel⟩ => ?_
  subst he
  exact ⟨_, rfl, _, _, _, [], _, [], hW', trodAll_mk1 (shut_bool Tryd.underlying4 _), (trodAll_cons_mk (Below.trod laidOut (by kernel_rfl) (of_decide_eq_true (by kernel_rfl)) k0 bel lt0) (trodAll_cons_mk (Below.trod laidOut (by kernel_rfl) (of_decide_eq_true (by kernel_rfl)) k1 bel lt1) (trodAll_cons_mk (shut_string Tryd.underlying9 y2) (trodAll_cons_mk (shut_int Tryd.underlying3 w3) trodAll_mk0)))), rfl, bel.frame _, fun h => by cases h⟩

/-- A world for the witness: each listed variable holds what its initialiser lays. -/
noncomputable def laidWorld (os : Os) : World :=
  { World.holding Tryd.prog os ⟨#[], #[], []⟩ with heap := ((((World.holding Tryd.prog os ⟨#[], #[], []⟩).heap).modify 1 (fun | .cells _ t frozen => .cells (flat Rows.laid_math_bits_deBruijn32tab).toArray t frozen | o => o)).modify 2 (fun | .cells _ t frozen => .cells (flat Rows.laid_math_bits_deBruijn64tab).toArray t frozen | o => o)).modify 0 (fun | .cells _ t frozen => .cells (flat Rows.laid_internal_strconv_uint64pow10).toArray t frozen | o => o) }
theorem laid_met (os : Os) : laidMet Tryd.prog Rows.astTellsRow.laid ((laidWorld os).forCall (fun _ _ => 0) ⟨#[], #[.slice none 0 0, .slice none 0 0, .string ByteArray.empty, .int .i64 0], []⟩).memory :=
  laidMet_of_run' 8 (by kernel_rfl) (by kernel_rfl)
theorem reads (os : Os) {H : Type} (enc : TypeId × Value → H) : ∃ places, DataW.whole enc Tryd.prog ((laidWorld os).forCall (fun _ _ => 0) ⟨#[], #[.slice none 0 0, .slice none 0 0, .string ByteArray.empty, .int .i64 0], []⟩).memory Tryd.f7.params.toList Rows.astTellsSpec.vars false #[Value.slice none 0 0, Value.slice none 0 0, Value.string ByteArray.empty, Value.int .i64 0].toList 8 = some ([.nil, .nil, .lit (.string []), .lit (.int .i64 0)], [], places) :=
  ⟨[], by kernel_rfl⟩

set_option maxRecDepth 100000 in
theorem lifted (os : Os) (started : os.Started) (H : Type) (enc : TypeId × Value → H) (F : Stop.Interp) :
    ReturnsInHanded {} Tryd.checked os 7 .any ((OpenSpec.ofChange Rows.astTellsSpec).preRow enc Tryd.prog Tryd.f7 Rows.astTellsRow.domain false Rows.astTellsRow.laid) (((OpenSpec.ofChange Rows.astTellsSpec).at F).post enc Tryd.prog Tryd.f7 false true false false) := by
  obtain ⟨places, hx⟩ := reads os enc
  refine returnsInHanded_of_row (C := Tryd.checked) (s := OpenSpec.ofChange Rows.astTellsSpec) own started (by kernel_rfl) Tryd.func7
    (witness_row_at (enc := enc) (C := Tryd.checked) false (laidWorld os) #[.slice none 0 0, .slice none 0 0, .string ByteArray.empty, .int .i64 0] rfl (by kernel_rfl) (by kernel_rfl) (by kernel_rfl)
      (OpenSpec.preRow_of_cond 8 hx (by kernel_rfl) (fun k hk => by cases hk) (by kernel_rfl) (laid_met os))) ?_
  intro W base args ds gs before hval hW _ _ hsz hL _ _
  exact contract H enc W base args ds gs before hval hW hsz (table hL)

theorem said : Rows.AstTellsSaid :=
  OpenClaim.holds_of_cond 7 Tryd.f7 rfl rfl rfl rfl rfl rfl rfl ⟨rfl, rfl, rfl, rfl, rfl⟩ rfl rfl rfl rfl rfl (by kernel_rfl) Tryd.func7 (by kernel_rfl)
    (of_decide_eq_true (by kernel_rfl)) (by unfold Func.isWrapper; first | (rw [if_pos (by decide +kernel)]; kernel_rfl) | (rw [if_neg (by decide +kernel)]; exact ⟨rfl, rfl⟩))
    (fun os started H enc _ F => by rw [OpenClaim.pre_eq_preRow]; exact lifted os started H enc F)

theorem plain (f : FuncId) (fn : Func) (hf : Tryd.pinned.checked.prog.funcNamed "scribe/scribelaw12.AstTells" = some f) (hfn : Tryd.pinned.checked.prog.funcs[f]? = some fn) :
    false = Tryd.pinned.checked.prog.looks [] ∧ ∀ (j : Nat) t, fn.params[j]? = some t → Tryd.pinned.checked.prog.wantsStandIn t = false := by
  obtain rfl : f = 7 := Option.some.inj ((show Tryd.prog.funcNamed "scribe/scribelaw12.AstTells" = some 7 by kernel_rfl).symm.trans hf) |>.symm
  obtain rfl : fn = Tryd.f7 := (Option.some.inj (Tryd.func7.symm.trans hfn)).symm
  refine ⟨by kernel_rfl, fun j t ht => ?_⟩
  rw [Tryd.params7] at ht
  have hm := Array.mem_of_getElem? ht
  simp only [List.mem_toArray, List.mem_cons, List.not_mem_nil, or_false] at hm
  rcases hm with rfl | rfl | rfl | rfl
  · exact (show Tryd.prog.wantsStandIn 22 = false by kernel_rfl)
  · exact (show Tryd.prog.wantsStandIn 22 = false by kernel_rfl)
  · exact (show Tryd.prog.wantsStandIn 9 = false by kernel_rfl)
  · exact (show Tryd.prog.wantsStandIn 3 = false by kernel_rfl)

theorem card : Rows.AstTellsCardSaid :=
  Claim7.holds_tied_plain_at .later [] _ _ _ _ said (fun _ h => by cases h) (by kernel_rfl) (fun _ h => by cases h) astTells_row_tie rfl ⟨rfl, rfl⟩ (by kernel_rfl) rfl plain (by kernel_rfl)
end Go.Proofs.YtgkojnpbgkglgaaDoor.astTells
namespace Go.Proofs.YtgkojnpbgkglgaaDoor
/-- The card of AstTells. -/
theorem astTells_holds : Rows.AstTellsCardSaid := astTells.card
end Go.Proofs.YtgkojnpbgkglgaaDoor
