/- match: Compile and Of, walked by hand; Find and In, told by what a tree is met by. -/
import Derived.Test.YthlffghlkggimaaPuMtB1
import Derived.Test.YthlffghlkggimaaPuMtF
import Derived.Test.YthlffghlkggimaaPuMtR
import Derived.Test.YthlffghlkggimaaPuRxP
import Derived.Test.YthlffghlkggimaaPuRxE
import Derived.Test.YthlffghlkggimaaPr14
import Derived.Test.YthlffghlkggimaaPr15
set_option linter.unusedVariables false
set_option linter.unusedSimpArgs false
namespace Go.Proofs.Ythlffghlkggimaa.Pr
open Go Go.RowKit Go.Proofs.YthlffghlkggimaaW.PrintWords Go.Proofs.YthlffghlkggimaaW.PrintLast Go.Proofs.YthlffghlkggimaaW.PrintMore
def IsP (W : World) (g : Nat) (n : RNode) : Prop := ∃ A c, W.heap[g]? = some (.cells #[.slice A (comp n).2.length c, .int .i64 ((comp n).1 : Int)] 66 (0, 0)) ∧ True ∧ Kd.C kMS W A (comp n).2.length (comp n).2
theorem IsP.below {W W1 : World} {g : Nat} {n : RNode} (h : IsP W g n) (hb : Below W.heap.size W W1) : IsP W1 g n := by
 obtain ⟨A, c, h1, _, h2⟩ := h
 exact ⟨A, c, (hb.block g (blk_lt h1)).trans h1, trivial, Kd.C_below h2 hb⟩
theorem IsP.lt {W : World} {g : Nat} {n : RNode} (h : IsP W g n) : g < W.heap.size := by
 obtain ⟨A, c, h1, _⟩ := h
 exact blk_lt h1
abbrev s0cells : Array Value := #[.int .i64 4, .int .u64 0, .int .u64 0, .int .u64 0, .int .u64 0, .int .i64 0, .int .i64 0]
theorem start_row (W : World) (base : Nat) (hb : base ≤ W.heap.size) : Kd.R kMS 68 (W.alloc (.cells s0cells 68)) base (fun _ => True) (.slice (some ⟨W.heap.size, 0, none⟩) 1 1) start0 :=
 ⟨fun _ _ => trivial, _, World.ownsRow_lit W s0cells 1 hb (by decide) rfl, rfl, fun j p hj => by
  match j, hj with
  | 0, hj =>
   obtain rfl : (⟨4, zW, 0, 0⟩ : MSt) = p := by simpa [start0] using hj
   exact k68_mkM _ _ _ (⟨4, zW, 0, 0⟩ : MSt)
  | j + 1, hj => simp [start0] at hj⟩
set_option maxHeartbeats 4000000 in
set_option maxRecDepth 100000 in
theorem Compile_calls (n : RNode) (A : Option Addr) (c : Nat) (w : World) (hw : Wf n) (hcnt : cnt n ≤ 1000) (hc : n.f2.length ≤ c) (hC : Kd.C kRN w A n.f2.length n.f2) :
  Calls Try.prog 21 #[ndAgg n A c] w fun e w' => ∃ g, e = .returned (.tuple #[.pointer (some ⟨g, 0, none⟩), .int .i64 0]) ∧ IsP w' g n ∧ Below w.heap.size w w' := by
 have hu := Try.underlying66
 have hu2 := Try.underlying52
 have hu3 := Try.underlying68
 have hus := Try.underlying49
 obtain ⟨W1, hW1⟩ : ∃ W1, w.alloc (.cells #[.int .i64 n.f0, .int .u64 n.f1.f0, .int .u64 n.f1.f1, .int .u64 n.f1.f2, .int .u64 n.f1.f3, .slice A n.f2.length c] 52) = W1 := ⟨_, rfl⟩
 have hb1 : Below w.heap.size w W1 := by rw [← hW1]; exact (Below.refl _ _).alloc (Nat.le_refl _) _
 have hs1 : W1.heap.size = w.heap.size + 1 := by rw [← hW1]; exact World.size_alloc _ _
 have hx1 : BoxN W1 w.heap.size n.f0 n.f1 A n.f2.length c := by rw [← hW1]; exact heap_alloc_new w _
 obtain ⟨W2, hW2⟩ : ∃ W2, W1.alloc (.cells s0cells 68) = W2 := ⟨_, rfl⟩
 have hR2 : Kd.R kMS 68 W2 w.heap.size (fun _ => True) (.slice (some ⟨w.heap.size + 1, 0, none⟩) 1 1) start0 := by
  have h := start_row W1 w.heap.size (by omega)
  rw [hs1, hW2] at h
  exact h
 have hb2 : Below W1.heap.size W1 W2 := by rw [← hW2]; exact (Below.refl _ _).alloc (Nat.le_refl _) _
 have hs2 : W2.heap.size = w.heap.size + 2 := by rw [← hW2, World.size_alloc, hs1]
 obtain ⟨W3, hW3⟩ : ∃ W3, W2.alloc (.cells #[.slice (some ⟨w.heap.size + 1, 0, none⟩) 1 1, .int .i64 0] 66) = W3 := ⟨_, rfl⟩
 have hb3 : Below W2.heap.size W2 W3 := by rw [← hW3]; exact (Below.refl _ _).alloc (Nat.le_refl _) _
 have hg3 : W3.heap[w.heap.size + 2]? = some (.cells #[.slice (some ⟨w.heap.size + 1, 0, none⟩) 1 1, .int .i64 0] 66 (0, 0)) := by rw [← hW3, ← hs2]; exact heap_alloc_new W2 _
 have hbw : Below w.heap.size w W3 := hb1.trans ((hb2.trans (hb3.mono hb2.size)).mono hb1.size)
 have hP3 : PX w W3 (w.heap.size + 2) start0 0 := ⟨⟨_, hg3, Kd.R_below hR2 hb3⟩, by omega, hbw⟩
 have hx3 : BoxN W3 w.heap.size n.f0 n.f1 A n.f2.length c := (hb3.block _ (by omega)).trans ((hb2.block _ (by omega)).trans hx1)
 obtain ⟨b0, b1, b2, b3, b4, b5⟩ := hx3.cells
 have hbd := comp_bd n hw
 have hlen : (comp n).2.length = 1 + cnt n := hbd.len
 have HB := Lib.hid (build_walk w (w.heap.size + 2) 0 _ n A c 0 start0 W3 (Nat.le_refl _) hw (by show 1 + cnt n ≤ 2000; omega) (by decide) hc hC hP3)
 have hcomp : bld n 0 start0 = comp n := rfl
 rw [hcomp] at HB
 have hd1 : decide (2000 < (comp n).2.length) = false := decide_eq_false (by omega)
 have hd2 : decide ((2000 : Int) < ((comp n).2.length : Int)) = false := decide_eq_false (by omega)
 have hd3 : decide (((comp n).2.length : Int) > 2000) = false := decide_eq_false (by omega)
 have HBW := Lib.hid hbw
 have HG2 := Lib.hid hs2
 clear hb1 hx1 hR2 hb2 hb3 hg3 hP3 hx3 hbd hlen hcomp hbw
 go_enter Try.func21, Try.ntmps21
 go_wp2_with (go_at_call 30; refine HB.out.mono ?_; rintro e w2 ⟨rfl, hp2, hk2⟩; obtain ⟨s1, s2⟩ := hp2.first; have HP2 := Lib.hid hp2; obtain ⟨Al, cl, p0⟩ := (hp2.begin ((comp n).1 : Int)).field; clear hp2 hk2 b0 b1 b2 b3 b4 b5)
 go_ret2
 have hp := HP2.out.begin ((comp n).1 : Int)
 obtain ⟨⟨v, hb, hR⟩, hge, hbel⟩ := hp
 obtain ⟨A2, c2, rfl, hl2, hC2⟩ := Kd.R_reads hR
 exact ⟨_, rfl, ⟨A2, c2, hb, trivial, hC2⟩, hbel⟩
set_option maxHeartbeats 4000000 in
set_option maxRecDepth 100000 in
theorem Of_bad (s : ByteArray) (hs : (s.size : Int) ≤ 300) {n : RNode} {s' : St} (hR : R s .alt s0 n s') (he : s'.e ≠ 0) (w : World) :
  Calls Try.prog 12 #[.string s] w fun e w' => e = .returned (.tuple #[.pointer none, .int .i64 s'.b, .int .i64 s'.e]) ∧ Below w.heap.size w w' := by
 obtain ⟨k, hk⟩ := Ev.rounds (parse_ev hs hR)
 rw [if_neg he] at hk
 have hne : (s'.e != 0) = true := by simpa using he
 have HP := Lib.hid (fun W => regex_Parse.calls k s 0 0 0 0 0 [] s'.b s'.e W ⟨rfl⟩ hk)
 have hu2 := Try.underlying52
 have hus := Try.underlying49
 clear hk hR
 go_enter Try.func12, Try.ntmps12
 go_wp2_with (go_at_call 20; refine (HP.out _).mono ?_; rintro e w1 ⟨v5, rfl, hR5, hb5⟩; obtain ⟨A5, c5, rfl, hl5, hC5⟩ := Kd.R_reads hR5; have HB5 := Lib.hid hb5; clear hR5 hC5 hb5)
 go_ret3
 exact ⟨rfl, HB5.out.alloc HB5.out.size _⟩
set_option maxHeartbeats 4000000 in
set_option maxRecDepth 100000 in
theorem Of_ok (s : ByteArray) (hs : (s.size : Int) ≤ 300) {n : RNode} {s' : St} (hR : R s .alt s0 n s') (he : s'.e = 0) (w : World) :
  Calls Try.prog 12 #[.string s] w fun e w' => ∃ g, e = .returned (.tuple #[.pointer (some ⟨g, 0, none⟩), .int .i64 0, .int .i64 0]) ∧ IsP w' g n ∧ Below w.heap.size w w' := by
 obtain ⟨k, hk⟩ := Ev.rounds (parse_ev hs hR)
 rw [if_pos he] at hk
 have hcnt := cnt_of (by omega) hR he
 have hw : Wf n := wf_R hR trivial
 have HP := Lib.hid (fun W => regex_Parse.calls k s n.f0 n.f1.f0 n.f1.f1 n.f1.f2 n.f1.f3 n.f2 0 0 W ⟨rfl⟩ hk)
 have HC := Lib.hid (fun A c W (hc : n.f2.length ≤ c) (hC : Kd.C kRN W A n.f2.length n.f2) => Compile_calls n A c W hw (by omega) hc hC)
 have hu2 := Try.underlying52
 have hus := Try.underlying49
 clear hk hR hcnt hw
 go_enter Try.func12, Try.ntmps12
 go_wp2_with (first
  | (go_at_call 20; refine (HP.out _).mono ?_; rintro e w1 ⟨v5, rfl, hR5, hb5⟩; obtain ⟨A5, c5, rfl, hl5, hC5⟩ := Kd.R_reads hR5; have HB5 := Lib.hid hb5; have HC5 := Lib.hid hC5; clear hR5 hC5 hb5)
  | (go_at_call 21; refine (HC.out A5 c5 _ hl5 (Kd.C_below HC5.out ((Below.refl _ _).alloc (Nat.le_refl _) _))).mono ?_; rintro e w2 ⟨g, rfl, hp, hb⟩; have HP2 := Lib.hid hp; have HB2 := Lib.hid hb; clear hp hb))
 go_ret3
 exact ⟨g, rfl, HP2.out, (HB5.out.alloc HB5.out.size _).trans (HB2.out.mono (by have := HB5.out.size; simp; omega))⟩
def MetS (n : RNode) (t : ByteArray) (from2 a b : Int) (ok : Bool) : Prop :=
 (ok = false ∧ a = 0 ∧ b = 0 ∧ ∀ s e : Nat, from2 ≤ (s : Int) → s ≤ t.size → 0 ≤ from2 → ¬ Mt (chB t) t.size n s e) ∨
  (ok = true ∧ ∃ s e : Nat, a = (s : Int) ∧ b = (e : Int) ∧ 0 ≤ from2 ∧ from2 ≤ (s : Int) ∧ s ≤ e ∧ e ≤ t.size ∧ Mt (chB t) t.size n s e ∧ ∀ s' e' : Nat, from2 ≤ (s' : Int) → s' ≤ t.size → Mt (chB t) t.size n s' e' → s < s' ∨ (s = s' ∧ e' ≤ e))
theorem find_met {n : RNode} (hw : Wf n) {t : ByteArray} {from2 a b : Int} {ok : Bool} (h : FindS (comp n).2 (chB t) t.size (comp n).1 from2 a b ok) : MetS n t from2 a b ok := by
 rcases h with ⟨h1, h2, h3, h4⟩ | ⟨h1, s, e, h2, h3, h4, h5, h6, h7, h8, h9⟩
 ·exact .inl ⟨h1, h2, h3, fun s e a b c hm => h4 s e a b c ((comp_rc n hw s e).2 hm)⟩
 ·exact .inr ⟨h1, s, e, h2, h3, h4, h5, h6, h7, (comp_rc n hw s e).1 h8, fun s' e' a b hm => h9 s' e' a b ((comp_rc n hw s' e').2 hm)⟩
theorem find_all {n : RNode} (hw : Wf n) (hok : OkT n) (hcnt : cnt n ≤ 1000) {t : ByteArray} (hts : t.size < 1000000) (from2 : Int) : ∃ a b ok, MetS n t from2 a b ok ∧ Ev (fun k => match_Prog_Find.f k (comp n).2 ((comp n).1 : Int) t from2) (a, b, ok, ((comp n).1 : Int)) := by
 have hbd := comp_bd n hw
 have hlen : (comp n).2.length = 1 + cnt n := hbd.len
 obtain ⟨a, b, ok, hf, hv⟩ := find_ev (comp_tg n hw) (comp_ok n hok) (by omega) hts hbd.lt from2
 exact ⟨a, b, ok, find_met hw hf, hv⟩
theorem Find_calls {W : World} {g : Nat} {n : RNode} (hI : IsP W g n) (hw : Wf n) (hok : OkT n) (hcnt : cnt n ≤ 1000) {t : ByteArray} (hts : t.size < 1000000) (from2 : Int) :
  ∃ a b ok, MetS n t from2 a b ok ∧ Calls Try.prog 15 #[.pointer (some ⟨g, 0, none⟩), .string t, .int .i64 from2] W fun e w' => e = .returned (.tuple #[.int .i64 a, .int .i64 b, .bool ok]) ∧ Below W.heap.size W w' := by
 obtain ⟨a, b, ok, hm, hv⟩ := find_all hw hok hcnt hts from2
 obtain ⟨k, hk⟩ := Ev.rounds hv
 refine ⟨a, b, ok, hm, (match_Prog_Find.calls k g _ _ t from2 a b ok _ W W hI (Below.refl _ _) ⟨rfl⟩ hk).mono ?_⟩
 rintro e w' ⟨rfl, _, hb, _⟩
 exact ⟨rfl, hb⟩
def InS (n : RNode) (t : ByteArray) (ok : Bool) : Prop := ok = true ↔ ∃ s e, s ≤ t.size ∧ Mt (chB t) t.size n s e
theorem In_calls {W : World} {g : Nat} {n : RNode} (hI : IsP W g n) (hw : Wf n) (hok : OkT n) (hcnt : cnt n ≤ 1000) {t : ByteArray} (hts : t.size < 1000000) :
  ∃ ok, InS n t ok ∧ Calls Try.prog 17 #[.pointer (some ⟨g, 0, none⟩), .string t] W fun e w' => e = .returned (.bool ok) ∧ Below W.heap.size W w' := by
 obtain ⟨a, b, ok, hm, hv⟩ := find_all hw hok hcnt hts 0
 obtain ⟨k, hk⟩ := Ev.rounds hv
 refine ⟨ok, ?_, (match_Prog_In.calls k g _ _ t ok ((comp n).1 : Int) W W hI (Below.refl _ _) ⟨rfl⟩ (by unfold match_Prog_In.f; rw [hk]; rfl)).mono ?_⟩
 ·rcases hm with ⟨rfl, _, _, h⟩ | ⟨rfl, s, e, _, _, _, _, h1, h2, h3, _⟩
  ·unfold InS
   constructor
   ·intro hf; cases hf
   ·rintro ⟨s, e, hs, hm⟩; exact absurd hm (h s e (by omega) hs (Int.le_refl _))
  ·unfold InS
   exact ⟨fun _ => ⟨s, e, by omega, h3⟩, fun _ => rfl⟩
 ·rintro e w' ⟨rfl, _, hb, _⟩
  exact ⟨rfl, hb⟩
end Go.Proofs.Ythlffghlkggimaa.Pr
