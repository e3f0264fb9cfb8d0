/- The law LexReads: whatever the arguments, the call returns true; the row and its tied card. The listed variables start as the program's text lays them. -/
import Derived.Test.YtpnkcihiliagcaaDoorCards
import Derived.Test.YtpnkcihiliagcaaDoorTie
import Derived.Test.YtpnkcihiliagcaaDoorPuLexReads
import Derived.Test.YtpnkcihiliagcaaDoorTbLay
import Derived.WalkKit
import Derived.ProofKit
import Derived.OpenShut
import Derived.ShutString
import Derived.ChangeOld
import Derived.Below
import Derived.SizedLaws
import Derived.LaidSub
import Derived.Deep.DeepHandedRow
import Derived.Lib.LaidTab
import Derived.Lib.SmallJoins
import Derived.Deep.DeepWitnessRowRef
namespace Go.Proofs.YtpnkcihiliagcaaDoor.lexReads
open Go Go.ChangeShapes Go.WideShapes Go.ChangeAt Go.RowKit
open Go.ChangeMaps (open_string shut_string)
open Go.Joins (open_agg2 open_agg3 open_agg4 shut_agg2 shut_agg3 shut_agg4 field_of_Trod)
open Go.Proofs.YtpnkcihiliagcaaDoorW.PrintWords Go.Proofs.YtpnkcihiliagcaaDoor.Pr

theorem own : ownKnob Tryd.prog.godebug = none := by kernel_rfl
mutual
def flat : DataW Unit → List Value
  | .lit (.int k n) => [.int k n]
  | .agg l => flats l
  | _ => []
def flats : List (DataW Unit) → List Value
  | [] => []
  | d :: r => flat d ++ flats r
end
theorem gTabType0 : (Tryd.prog.globals[0]?).map (·.type) = some 33 := by kernel_rfl
theorem laidSame0 : Rows.lexReadsRow.laid.filter (fun x => x.1 == "scribe/lex.words") = [("scribe/lex.words", .slice (wordsT.map fun z => .lit (.string z.data.toList)) [])] := by kernel_rfl
theorem gTabType1 : (Tryd.prog.globals[1]?).map (·.type) = some 33 := by kernel_rfl
theorem laidSame1 : Rows.lexReadsRow.laid.filter (fun x => x.1 == "scribe/lex.builtins") = [("scribe/lex.builtins", .slice (builtinsT.map fun z => .lit (.string z.data.toList)) [])] := by kernel_rfl
theorem gTabType2 : (Tryd.prog.globals[2]?).map (·.type) = some 33 := by kernel_rfl
theorem laidSame2 : Rows.lexReadsRow.laid.filter (fun x => x.1 == "scribe/lex.banned") = [("scribe/lex.banned", .slice (bannedT.map fun z => .lit (.string z.data.toList)) [])] := by kernel_rfl
/-- The list gives the tables. -/
theorem table {W : World} (h : laidMetH Tryd.prog Rows.lexReadsRow.laid W) (hS : W.ShapedOpen Tryd.prog) : TB W := by
  have h0 := laidMetH.filter (fun x => x.1 == "scribe/lex.words") h
  rw [laidSame0] at h0
  have h1 := laidMetH.filter (fun x => x.1 == "scribe/lex.builtins") h
  rw [laidSame1] at h1
  have h2 := laidMetH.filter (fun x => x.1 == "scribe/lex.banned") h
  rw [laidSame2] at h2
  exact ⟨Tryd.laysM144.s1_3 W hS, laidS_of_head (rest := []) (by kernel_rfl) gTabType0 Tryd.underlying33 Tryd.underlying9 (by kernel_rfl) (by decide) (by decide) h0, laidS_of_head (rest := []) (by kernel_rfl) gTabType1 Tryd.underlying33 Tryd.underlying9 (by kernel_rfl) (by decide) (by decide) h1, laidS_of_head (rest := []) (by kernel_rfl) gTabType2 Tryd.underlying33 Tryd.underlying9 (by kernel_rfl) (by decide) (by decide) h2⟩

set_option maxRecDepth 100000 in
theorem contract (H : Type) (enc : TypeId × Value → H) (W : World) (base : Nat) (args : Array Value) (ds gs : List (DataW H)) (before : List MemPlace)
    (hval : ∀ (j : Nat) t v, Tryd.f9.params[j]? = some t → args[j]? = some v → Value.okWide Tryd.prog W .any base t v)
    (hW : DataW.Whole enc Tryd.prog Tryd.f9.params.toList Rows.lexReadsSpec.vars false W args.toList ds gs before)
    (hsz : (DataW.weightsEach Tryd.prog (Tryd.f9.params.toList ++ Rows.lexReadsSpec.plain.varTypes Tryd.prog) (ds ++ gs)).all (· ≤ reachBytes) = true) (hT : TB W) :
    Calls Tryd.prog 9 args W fun e W' => ∃ v, e = .returned v ∧ Rows.lexReadsSpec.post enc Tryd.prog Tryd.f9 false true false false W args v W' := by
  have hW' := hW
  obtain ⟨p, q, hA0, hV, rfl, hfz, hnd⟩ := hW
  have hA : DataW.TrodAll enc Tryd.prog W 0 (fun _ => true) true Tryd.f9.params.toList args.toList ds p := hA0
  rw [Tryd.params9] at hA hval hsz
  obtain ⟨v0, vs0, d0, ds0, p0, q0, hargs, rfl, rfl, h0, r0⟩ := trodAll_cons hA
  obtain ⟨rfl, rfl, rfl⟩ := trodAll_nil r0
  obtain rfl : args = #[v0] := by cases args; simp_all
  obtain ⟨rfl, rfl⟩ := trodVars_none hV
  obtain ⟨a0, rfl, rfl, rfl, y0⟩ := open_string Tryd.underlying9 (hval 0 9 v0 rfl rfl) h0
  have w0 : a0.size ≤ 140737488351232 := by
    have z := sized_string hsz (j := 0) (t := 9) rfl rfl
    rw [Array.length_toList] at z
    exact z
  clear hA0 hval hsz
  obtain ⟨k, h⟩ := Ev.rounds (LexReads_ev a0 w0)
  refine (Pr.scribelaw11_LexReads.calls k a0 true W hT h).mono fun e W' ⟨he, bel⟩ => ?_
  subst he
  exact ⟨_, rfl, _, _, _, [], _, [], hW', trodAll_mk1 (shut_bool Tryd.underlying4 _), (trodAll_cons_mk (shut_string Tryd.underlying9 y0) trodAll_mk0), rfl, bel.frame _, fun h => by cases h⟩

/-- A world for the witness: each listed variable holds what its initialiser lays. -/
def texts (l : List ByteArray) : Array Value := (l.map fun s => Value.string s).toArray
/-- A world for the witness: each listed variable holds what its initialiser lays. -/
noncomputable def laidWorld (os : Os) : World :=
  { World.holding Tryd.prog os ⟨#[], #[], []⟩ with heap := (((((((World.holding Tryd.prog os ⟨#[], #[], []⟩).heap).modify 0 (fun | .cells _ t frozen => .cells #[.slice (some ⟨(World.holding Tryd.prog os ⟨#[], #[], []⟩).heap.size + 0, 0, none⟩) wordsT.length wordsT.length] t frozen | o => o)).modify 1 (fun | .cells _ t frozen => .cells #[.slice (some ⟨(World.holding Tryd.prog os ⟨#[], #[], []⟩).heap.size + 1, 0, none⟩) builtinsT.length builtinsT.length] t frozen | o => o)).modify 2 (fun | .cells _ t frozen => .cells #[.slice (some ⟨(World.holding Tryd.prog os ⟨#[], #[], []⟩).heap.size + 2, 0, none⟩) bannedT.length bannedT.length] t frozen | o => o)).push (.cells (texts wordsT) 9 (0, 0))).push (.cells (texts builtinsT) 9 (0, 0))).push (.cells (texts bannedT) 9 (0, 0)) }
theorem laid_met (os : Os) : laidMet Tryd.prog Rows.lexReadsRow.laid ((laidWorld os).forCall (fun _ _ => 0) ⟨#[], #[.string ByteArray.empty], []⟩).memory :=
  laidMet_of_run' 8 (by kernel_rfl) (by kernel_rfl)
theorem reads (os : Os) {H : Type} (enc : TypeId × Value → H) : ∃ places, DataW.whole enc Tryd.prog ((laidWorld os).forCall (fun _ _ => 0) ⟨#[], #[.string ByteArray.empty], []⟩).memory Tryd.f9.params.toList Rows.lexReadsSpec.vars false #[Value.string ByteArray.empty].toList 8 = some ([.lit (.string [])], [], places) :=
  ⟨[], by kernel_rfl⟩

set_option maxRecDepth 100000 in
theorem lifted (os : Os) (started : os.Started) (H : Type) (enc : TypeId × Value → H) (F : Stop.Interp) :
    ReturnsInHanded {} Tryd.checked os 9 .any ((OpenSpec.ofChange Rows.lexReadsSpec).preRow enc Tryd.prog Tryd.f9 Rows.lexReadsRow.domain false Rows.lexReadsRow.laid) (((OpenSpec.ofChange Rows.lexReadsSpec).at F).post enc Tryd.prog Tryd.f9 false true false false) := by
  obtain ⟨places, hx⟩ := reads os enc
  refine returnsInHanded_of_row (C := Tryd.checked) (s := OpenSpec.ofChange Rows.lexReadsSpec) own started (by kernel_rfl) Tryd.func9
    (witness_row_atRef (enc := enc) (C := Tryd.checked) false (laidWorld os) #[.string ByteArray.empty] rfl (by kernel_rfl) (by kernel_rfl) (by kernel_rfl)
      (OpenSpec.preRow_of_cond 8 hx (by kernel_rfl) (fun k hk => by cases hk) (by kernel_rfl) (laid_met os))) ?_
  intro W base args ds gs before hval hW _ _ hsz hL hS _
  exact contract H enc W base args ds gs before hval hW hsz (table hL hS)

theorem said : Rows.LexReadsSaid :=
  OpenClaim.holds_of_cond 9 Tryd.f9 rfl rfl rfl rfl rfl rfl rfl ⟨rfl, rfl, rfl, rfl, rfl⟩ rfl rfl rfl rfl rfl (by kernel_rfl) Tryd.func9 (by kernel_rfl)
    (of_decide_eq_true (by kernel_rfl)) (by unfold Func.isWrapper; first | (rw [if_pos (by decide +kernel)]; kernel_rfl) | (rw [if_neg (by decide +kernel)]; exact ⟨rfl, rfl⟩))
    (fun os started H enc _ F => by rw [OpenClaim.pre_eq_preRow]; exact lifted os started H enc F)

theorem plain (f : FuncId) (fn : Func) (hf : Tryd.pinned.checked.prog.funcNamed "scribe/scribelaw11.LexReads" = some f) (hfn : Tryd.pinned.checked.prog.funcs[f]? = some fn) :
    false = Tryd.pinned.checked.prog.looks [] ∧ ∀ (j : Nat) t, fn.params[j]? = some t → Tryd.pinned.checked.prog.wantsStandIn t = false := by
  obtain rfl : f = 9 := Option.some.inj ((show Tryd.prog.funcNamed "scribe/scribelaw11.LexReads" = some 9 by kernel_rfl).symm.trans hf) |>.symm
  obtain rfl : fn = Tryd.f9 := (Option.some.inj (Tryd.func9.symm.trans hfn)).symm
  refine ⟨by kernel_rfl, fun j t ht => ?_⟩
  rw [Tryd.params9] at ht
  have hm := Array.mem_of_getElem? ht
  simp only [List.mem_toArray, List.mem_cons, List.not_mem_nil, or_false] at hm
  rcases hm with rfl
  · exact (show Tryd.prog.wantsStandIn 9 = false by kernel_rfl)

theorem card : Rows.LexReadsCardSaid :=
  Claim7.holds_tied_plain_at .later [] _ _ _ _ said (fun _ h => by cases h) (by kernel_rfl) (fun _ h => by cases h) lexReads_row_tie rfl ⟨rfl, rfl⟩ (by kernel_rfl) rfl plain (by kernel_rfl)
end Go.Proofs.YtpnkcihiliagcaaDoor.lexReads
namespace Go.Proofs.YtpnkcihiliagcaaDoor
/-- The card of LexReads. -/
theorem lexReads_holds : Rows.LexReadsCardSaid := lexReads.card
end Go.Proofs.YtpnkcihiliagcaaDoor
