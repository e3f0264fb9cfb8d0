/- Bytes behind a backslash are themselves: the law, walked by hand, the answer of Parse known ahead of the walk. -/
import Derived.Test.YtdjnjhmmpjbbaaaPuRxQ
import Derived.Test.YtdjnjhmmpjbbaaaPr1
import Derived.Deep.LoopGhost
import Derived.LoopTactic
import Derived.Deep.QuietTactic
import Derived.BigQuiet
import Derived.Lib.Hide
import Derived.IntWalk
import Derived.Test.YtdjnjhmmpjbbaaaPr2
set_option linter.unusedVariables false
set_option linter.unusedSimpArgs false
namespace Go.Proofs.Ytdjnjhmmpjbbaaa.Pr
open Go Go.RowKit Go.Proofs.YtdjnjhmmpjbbaaaW.PrintWords Go.Proofs.YtdjnjhmmpjbbaaaW.PrintLast Go.Proofs.YtdjnjhmmpjbbaaaW.PrintMore
attribute [local go_sem high] eqA26

theorem addr0 (b k : Nat) : (⟨b, 0, none⟩ : Addr).add k = ⟨b, k, none⟩ := by unfold Addr.add; split <;> simp_all
/-- a row of literals in memory -/
def NR (W : World) (ad : Addr) (u : List UInt8) : Prop := ∀ (n : Nat) (h : n < u.length),
  W.cell? (ad.add (n * 6)) = some (.int .i64 1) ∧ W.cell? ⟨(ad.add (n * 6)).block, (ad.add (n * 6)).off + 1, none⟩ = some (.int .u64 (withW zW ((u[n]).toNat : Int)).f0)
  ∧ W.cell? ⟨(ad.add (n * 6)).block, (ad.add (n * 6)).off + 2, none⟩ = some (.int .u64 (withW zW ((u[n]).toNat : Int)).f1) ∧ W.cell? ⟨(ad.add (n * 6)).block, (ad.add (n * 6)).off + 3, none⟩ = some (.int .u64 (withW zW ((u[n]).toNat : Int)).f2)
  ∧ W.cell? ⟨(ad.add (n * 6)).block, (ad.add (n * 6)).off + 4, none⟩ = some (.int .u64 (withW zW ((u[n]).toNat : Int)).f3)
theorem NR.below {W W' : World} {ad : Addr} {u : List UInt8} (h : NR W ad u) (hb : Below W.heap.size W W') : NR W' ad u := fun n hn => by
  obtain ⟨h0, h1, h2, h3, h4⟩ := h n hn
  exact ⟨(hb.cell (block_lt_of_cell h0)).trans h0, (hb.cell (block_lt_of_cell h1)).trans h1, (hb.cell (block_lt_of_cell h2)).trans h2, (hb.cell (block_lt_of_cell h3)).trans h3, (hb.cell (block_lt_of_cell h4)).trans h4⟩
theorem NR.alloc {W : World} {ad : Addr} {u : List UInt8} (h : NR W ad u) (o : Obj) : NR (W.alloc o) ad u := h.below (below_alloc (Below.refl _ _) o)
theorem NR.drew {W : World} {ad : Addr} {u : List UInt8} (h : NR W ad u) : NR W.drew ad u := h.below (below_drew1 (Below.refl _ _))
theorem NR.drewN {W : World} {ad : Addr} {u : List UInt8} (h : NR W ad u) (n : Nat) : NR (W.drewN n) ad u := h.below (pw_below_drewN (Below.refl _ _) n)
theorem NR.of_R {W : World} {base : Nat} {ok : Nat → Prop} {ad : Addr} {n c : Nat} {u : List UInt8} (h : Kd.R k29 29 W base ok (.slice (some ad) n c) (u.map litN)) : NR W ad u := fun i hi => by
  obtain ⟨ad2, A5, c5, e, h0, h1, h2, h3, h4, _⟩ := at_T29 (Kd.R_reads' h).2.2 (i : Int) (by omega) (by simpa using hi)
  obtain rfl : ad = ad2 := by injection e
  have hr : rd_T29 (u.map litN) (i : Int) = litN u[i] := by rw [rd_get _ i (by simpa using hi), List.getElem_map]
  rw [hr, Int.toNat_natCast] at h0 h1 h2 h3 h4
  exact ⟨h0, h1, h2, h3, h4⟩
theorem NR.one {X : World} {g : Nat} (hg : g = X.heap.size) (c : UInt8) (u : List UInt8) (hu : u = [c]) (v : Value) : NR (X.alloc (.cells #[.int .i64 1, .int .u64 (withW zW (c.toNat : Int)).f0, .int .u64 (withW zW (c.toNat : Int)).f1, .int .u64 (withW zW (c.toNat : Int)).f2, .int .u64 (withW zW (c.toNat : Int)).f3, v] 29)) ⟨g, 0, none⟩ u := by
  subst hu hg
  intro n hn
  obtain rfl : n = 0 := by simpa using hn
  have hb := heap_alloc_new X (.cells #[.int .i64 1, .int .u64 (withW zW (c.toNat : Int)).f0, .int .u64 (withW zW (c.toNat : Int)).f1, .int .u64 (withW zW (c.toNat : Int)).f2, .int .u64 (withW zW (c.toNat : Int)).f3, v] 29)
  have hb2 := (show (X.alloc (.cells #[.int .i64 1, .int .u64 (withW zW (c.toNat : Int)).f0, .int .u64 (withW zW (c.toNat : Int)).f1, .int .u64 (withW zW (c.toNat : Int)).f2, .int .u64 (withW zW (c.toNat : Int)).f3, v] 29)).heap[X.heap.size]? = some (.cells #[.int .i64 1, .int .u64 (withW zW (c.toNat : Int)).f0, .int .u64 (withW zW (c.toNat : Int)).f1, .int .u64 (withW zW (c.toNat : Int)).f2, .int .u64 (withW zW (c.toNat : Int)).f3, v] 29 (0, 0)) by simpa using hb)
  have e : (⟨X.heap.size, 0, none⟩ : Addr).add (0 * 6) = ⟨X.heap.size, 0, none⟩ := by rw [Nat.zero_mul, Addr.add_zero']
  rw [e]
  exact ⟨(blk_cell hb2 0).trans rfl, (blk_cell hb2 1).trans rfl, (blk_cell hb2 2).trans rfl, (blk_cell hb2 3).trans rfl, (blk_cell hb2 4).trans rfl⟩
theorem bcell {W w1 : World} (hb : Below W.heap.size W w1) : (∀ b o, b < W.heap.size → w1.cell? ⟨b, o, none⟩ = W.cell? ⟨b, o, none⟩) ∧ (∀ b o, b < W.heap.size → w1.frozen? ⟨b, o, none⟩ = W.frozen? ⟨b, o, none⟩) :=
  ⟨fun b o h => hb.cell (p := ⟨b, o, none⟩) h, fun b o h => hb.frozen (p := ⟨b, o, none⟩) h⟩
theorem with_keeps (p0 p1 p2 p3 p4 ad : Addr) (v0 v1 v2 v3 v4 : Value) (u : List UInt8) (c a b d f : Int) (w W : World) (hT : TB w) (h : W.cell? p0 = some v0 ∧ W.cell? p1 = some v1 ∧ W.cell? p2 = some v2 ∧ W.cell? p3 = some v3 ∧ W.cell? p4 = some v4 ∧ NR W ad u ∧ Below w.heap.size w W) (hw : regex_Set_With.f 0 0 0 0 c = some (a, b, d, f)) :
    Calls Try.prog 12 #[.agg #[.int .u64 0, .int .u64 0, .int .u64 0, .int .u64 0], .int .u8 c] W fun e w' => e = .returned (.agg #[.int .u64 a, .int .u64 b, .int .u64 d, .int .u64 f]) ∧ (w'.cell? p0 = some v0 ∧ w'.cell? p1 = some v1 ∧ w'.cell? p2 = some v2 ∧ w'.cell? p3 = some v3 ∧ w'.cell? p4 = some v4 ∧ NR w' ad u ∧ Below w.heap.size w w') := by
  obtain ⟨h0, h1, h2, h3, h4, hn, hb⟩ := h
  refine (regex_Set_With.calls 0 0 0 0 c a b d f W (TB.below hT hb) hw).mono fun e w' ⟨he, hb'⟩ => ⟨he, ?_, ?_, ?_, ?_, ?_, hn.below hb', below_step hb hb'⟩
  · exact (hb'.cell (block_lt_of_cell h0)).trans h0
  · exact (hb'.cell (block_lt_of_cell h1)).trans h1
  · exact (hb'.cell (block_lt_of_cell h2)).trans h2
  · exact (hb'.cell (block_lt_of_cell h3)).trans h3
  · exact (hb'.cell (block_lt_of_cell h4)).trans h4
theorem quoted_is {k : Nat} {u : List UInt8} (hu : u.length ≤ 140) {pr : Int × Int × Int × Int × Int × List S29 × Int × Int} (h : regex_Parse.f k (B (quL u)) = some pr) :
    pr = ((catN (u.map litN)).f0, (catN (u.map litN)).f1.f0, (catN (u.map litN)).f1.f1, (catN (u.map litN)).f1.f2, (catN (u.map litN)).f1.f3, (catN (u.map litN)).f2, 0, 0) := by
  obtain ⟨k0, h0⟩ := quoted_parse u hu
  have h1 := h0 (max k k0) (by omega)
  have h2 := at_rounds (fun k => regex_Parse.mono _ k) (show k ≤ max k k0 by omega) h
  dsimp only at h1
  rw [h2] at h1
  exact Option.some.inj h1
def scribelaw09_RegexQuoted.f (k : Nat) (a0 : ByteArray) : Option Bool := if 30 ≤ k then (regex_Parse.f k (B (quL (a0.data.toList.take 100)))).bind fun _ => some true else none
theorem RegexQuoted_ev (a0 : ByteArray) (_w0 : a0.size ≤ 140737488351232) : Ev (fun k => scribelaw09_RegexQuoted.f k a0) true := by
  obtain ⟨k0, h0⟩ := quoted_parse (a0.data.toList.take 100) (by have := List.length_take_le 100 a0.data.toList; omega)
  refine ⟨k0 + 30, fun k hk => ?_⟩
  unfold scribelaw09_RegexQuoted.f
  have h1 := h0 k (by omega)
  dsimp only at h1 ⊢
  rw [if_pos (by omega), h1]
  rfl
set_option maxHeartbeats 8000000 in
set_option maxRecDepth 100000 in
theorem scribelaw09_RegexQuoted.calls (k : Nat) (a0 : ByteArray) (r : Bool) (w : World) (hT : TB w) (h : scribelaw09_RegexQuoted.f k a0 = some r) :
    Calls Try.prog 3 #[.string a0] w fun e w' => e = .returned (.bool r) ∧ Below w.heap.size w w' := by
  have hul : (a0.data.toList.take 100).length ≤ 100 := List.length_take_le _ _
  have hcut : scribelaw01_Cut.f a0 100 = some (B (a0.data.toList.take 100)) := cut_B a0 100
  unfold scribelaw09_RegexQuoted.f at h
  generalize a0.data.toList.take 100 = u at *
  have HC := Lib.hid hcut
  clear hcut
  split at h
  rotate_left
  · cases h
  rename_i hk30
  obtain ⟨pr, hpr, hr⟩ := Option.bind_eq_some_iff.1 h
  obtain rfl : true = r := Option.some.inj hr
  clear h hr
  have HP0 := Lib.hid hpr
  clear hpr
  have hcv := @conv_one
  have hqn := quL_len u
  go_enter Try.func3, Try.ntmps3
  go_wp2_with (go_at_call 9; (with_reducible refine (scribelaw01_Cut.calls a0 100 (B u) _ (by repeat (first | exact hT | apply TB.drewN | apply TB.drew)) HC.out).mono ?_); rintro e w1 ⟨rfl, ⟨nd, rfl⟩⟩)
  go_loopg [3, 4] (u.length + 1) (fun gk v3 v4 wr => ∃ xi : Int, v3 = .string (B (quL (u.take xi.toNat))) ∧ v4 = .int .i64 xi ∧ 0 ≤ xi ∧ xi ≤ u.length ∧ (u.length : Int) - xi < gk ∧ Hid (Below w.heap.size w wr))
  case atStart => exact ⟨0, rfl, rfl, by omega, by omega, by omega, Lib.hid (by repeat (first | exact Below.refl _ _ | apply pw_below_drewN | apply below_drew1))⟩
  case round =>
    obtain ⟨xi, rfl, rfl, h0, h0', h1, HB⟩ := hrel
    obtain ⟨x, hx⟩ : ∃ x : Nat, xi.toNat = x := ⟨_, rfl⟩
    have hxi : xi = (x : Int) := by omega
    have hx1 : (xi + 1).toNat = x + 1 := by omega
    have HX1 := Lib.hid hx1
    clear hx1
    rw [hx]
    by_cases hlt : x < u.length
    · have hdc : decide (xi < ((B u).size : Int)) = true := decide_eq_true (by rw [B_size]; omega)
      have hlx : xi.toNat < (B u).size := by rw [B_size]; omega
      have hbt := bt_at (B u) xi hlx
      have hw1 : IntKind.i64.wrap (xi + 1) = xi + 1 := IntWalk.i64_in _ (by omega)
      have hbv : bt (B u) xi = (u[x].toNat : Int) := by rw [hxi]; exact bt_B u x hlt
      have hlti : xi < (u.length : Int) := by omega
      rw [hbv] at hbt
      clear hbv hxi hx
      obtain ⟨c8, hc8⟩ : ∃ c8, u[x] = c8 := ⟨_, rfl⟩
      have htk : u.take (x + 1) = u.take x ++ [c8] := by rw [List.take_succ_eq_append_getElem hlt, hc8]
      have hq1 : quL (u.take (x + 1)) = quL (u.take x) ++ quB c8 := by rw [htk, quL_app]; simp [quL]
      have hql := quL_len (u.take x)
      have htl : (u.take x).length ≤ x := List.length_take_le _ _
      rw [hc8] at hbt
      have hr := UInt8.toNat_lt c8
      have hone : strOfNums [(c8.toNat : Int)] = B [c8] := strNums_one c8
      have hg : ∃ g, selfC (c8.toNat : Int) = g := ⟨_, rfl⟩
      obtain ⟨g, hg⟩ := hg
      have hnext : B (quL (u.take (x + 1))) = if g = true then B (quL (u.take x)) ++ B [c8] else (B (quL (u.take x)) ++ (⟨#[92]⟩ : ByteArray)) ++ B [c8] := by
        rw [hq1]
        unfold quB
        rw [hg]
        split
        · rw [B_append]
        · rw [B_lit [92], B_append, B_append]; simp
      have HN := Lib.hid hnext
      obtain ⟨c, hc⟩ : ∃ c : Int, (c8.toNat : Int) = c := ⟨_, rfl⟩
      rw [hc] at hbt hone hg
      have hc0 : 0 ≤ c ∧ c < 256 := by omega
      obtain ⟨p, hp⟩ : ∃ p, B (quL (u.take x)) = p := ⟨_, rfl⟩
      have hps : p.size ≤ 400 := by rw [← hp, B_size]; omega
      rw [hp]
      rw [hp] at HN
      obtain ⟨y, hy⟩ : ∃ y, B [c8] = y := ⟨_, rfl⟩
      have hys : y.size = 1 := by rw [← hy]; rfl
      rw [hy] at HN hone
      have z1 : (9223372036854775807 < p.size + 1) = False := eq_false (by omega)
      have z2 : (9223372036854775807 < p.size + 1 + 1) = False := eq_false (by omega)
      clear hp hy hc hc8 htk hq1 hql htl hr hnext hps hqn
      have hk : c < 32 ∨ (32 ≤ c ∧ c < 48) ∨ (48 ≤ c ∧ c ≤ 57) ∨ (57 < c ∧ c < 65) ∨ (65 ≤ c ∧ c ≤ 90) ∨ (90 < c ∧ c < 97) ∨ (97 ≤ c ∧ c ≤ 122) ∨ (122 < c ∧ c ≤ 126) ∨ 126 < c := by omega
      unfold selfC at hg
      rcases hk with h | ⟨h, h'⟩ | ⟨h, h'⟩ | ⟨h, h'⟩ | ⟨h, h'⟩ | ⟨h, h'⟩ | ⟨h, h'⟩ | ⟨h, h'⟩ | h
      all_goals
        first | (have hbb : g = true := by (rw [← hg]; simp; omega)) | (have hbb : g = false := by (rw [← hg]; simp; omega))
        clear hg
        subst hbb
        (try have e1 : decide (48 ≤ c) = true := by simp; omega)
        (try have e2 : decide (48 ≤ c) = false := by simp; omega)
        (try have e3 : decide (c ≤ 57) = true := by simp; omega)
        (try have e4 : decide (c ≤ 57) = false := by simp; omega)
        (try have e5 : decide (97 ≤ c) = true := by simp; omega)
        (try have e6 : decide (97 ≤ c) = false := by simp; omega)
        (try have e7 : decide (c ≤ 122) = true := by simp; omega)
        (try have e8 : decide (c ≤ 122) = false := by simp; omega)
        (try have e9 : decide (65 ≤ c) = true := by simp; omega)
        (try have e10 : decide (65 ≤ c) = false := by simp; omega)
        (try have e11 : decide (c ≤ 90) = true := by simp; omega)
        (try have e12 : decide (c ≤ 90) = false := by simp; omega)
        (try have e13 : decide (c < 32) = true := by simp; omega)
        (try have e14 : decide (c < 32) = false := by simp; omega)
        (try have e15 : decide (126 < c) = true := by simp; omega)
        (try have e16 : decide (126 < c) = false := by simp; omega)
        go_wp2
        go_roundg (gk - 1)
        case measure => omega
        case rel => exact ⟨xi + 1, by rw [HX1.out, HN.out]; rfl, rfl, by omega, by omega, by omega, Lib.hid (by repeat (first | exact HB.out | apply pw_below_drewN | apply below_drew1 | apply below_alloc))⟩
    -- REST
    · have hxu : u.take x = u := List.take_of_length_le (by omega)
      have hdc : decide (xi < ((B u).size : Int)) = false := decide_eq_false (by rw [B_size]; omega)
      rw [hxu]
      have hpr2 := quoted_is (by omega) HP0.out
      have HAW := Lib.hid (show scribelaw09_awake.f k = some true by unfold scribelaw09_awake.f; rw [if_pos hk30])
      clear hqn hxu hlt h0 h0' h1 hx hxi HX1
      rcases Nat.lt_or_ge u.length 1 with hl0 | hl0
      · obtain rfl : u = [] := List.length_eq_zero_iff.1 (by omega)
        have HP := Lib.hid (show regex_Parse.f k (B (quL [])) = some (0, 0, 0, 0, 0, [], 0, 0) by rw [HP0.out, hpr2]; rfl)
        have hz : ((((B []).size : Nat) : Int) == 0) = true := rfl
        clear hpr2 HP0 hl0 hul
        go_wp2_with (first | (go_at_call 10; (with_reducible refine (regex_Parse.calls k _ 0 0 0 0 0 [] 0 0 _ (TB.below hT (by repeat (first | exact HB.out | apply pw_below_drewN | apply below_drew1 | apply below_alloc))) HP.out).mono ?_); rintro e w2 ⟨v5, rfl, hR, hB⟩; obtain ⟨A5, c5, e5⟩ := Kd.R_slice hR; subst e5; have HR := Lib.hid hR; have HB2 := Lib.hid (below_step (by repeat (first | exact HB.out | apply pw_below_drewN | apply below_drew1 | apply below_alloc)) hB); clear hR hB) | (go_at_call 11; (with_reducible refine (scribelaw09_awake.calls k true _ (TB.below hT (by repeat (first | exact HB2.out | apply pw_below_drewN | apply below_drew1 | apply below_alloc))) HAW.out).mono ?_); rintro e w3 ⟨rfl, hb⟩; have HB3 := Lib.hid (below_step (by repeat (first | exact HB2.out | apply pw_below_drewN | apply below_drew1 | apply below_alloc)) hb); obtain ⟨hbc, hbf⟩ := bcell hb; have n0 := hbc w2.heap.size 0 (by simp; omega); clear hb hbc hbf))
        go_ret
        exact ⟨by first | rfl | (simp; done), by repeat (first | exact HB3.out | apply pw_below_drewN | apply below_drew1 | apply below_alloc)⟩
      · have hz : (((B u).size : Int) == 0) = false := beq_eq_false_iff_ne.2 (by rw [B_size]; omega)
        rcases Nat.lt_or_ge u.length 2 with hl1 | hl1
        · obtain ⟨c8, hu1⟩ : ∃ c8, u = [c8] := List.length_eq_one_iff.1 (by omega)
          have HU1 := Lib.hid hu1
          have HP := Lib.hid (show regex_Parse.f k (B (quL u)) = some (1, (withW zW (c8.toNat : Int)).f0, (withW zW (c8.toNat : Int)).f1, (withW zW (c8.toNat : Int)).f2, (withW zW (c8.toNat : Int)).f3, [], 0, 0) by rw [HP0.out, hpr2, hu1]; rfl)
          have hne : ((1 : Int) != ((B u).size : Int)) = false := bne_eq_false_iff_eq.2 (by rw [B_size]; omega)
          clear hpr2 HP0 hu1
          go_wp2_with (go_at_call 10; (with_reducible refine (regex_Parse.calls k _ 1 _ _ _ _ [] 0 0 _ (TB.below hT (by repeat (first | exact HB.out | apply pw_below_drewN | apply below_drew1 | apply below_alloc))) HP.out).mono ?_); rintro e w2 ⟨v5, rfl, hR, hB⟩; obtain ⟨A5, c5, e5⟩ := Kd.R_slice hR; subst e5; have HR := Lib.hid hR; have HB2 := Lib.hid (below_step (by repeat (first | exact HB.out | apply pw_below_drewN | apply below_drew1 | apply below_alloc)) hB); clear hR hB)
          go_loopg [93] (u.length + 1) (fun gk v93 wr => ∃ i : Int, v93 = .int .i64 i ∧ 0 ≤ i ∧ i ≤ u.length ∧ (u.length : Int) - i < gk ∧ Hid (NR wr (⟨w2.heap.size + 1, 0, none⟩ : Addr) u) ∧ Hid (Below w.heap.size w wr))
          case atStart => exact ⟨0, rfl, by omega, by omega, by omega, Lib.hid (by repeat (first | exact NR.one (by simp) c8 u HU1.out _ | apply NR.alloc | apply NR.drewN | apply NR.drew)), Lib.hid (by repeat (first | exact HB2.out | apply pw_below_drewN | apply below_drew1 | apply below_alloc))⟩
          case round =>
            clear HB2
            obtain ⟨i, rfl, i0, i1, i2, HN, HB⟩ := hrel
            by_cases hli : i < (1 : Int)
            · have hdc : decide (i < (1 : Int)) = true := decide_eq_true hli
              have hlb : i.toNat < (B u).size := by rw [B_size]; omega
              have hlu : i.toNat < u.length := by omega
              have hbt := bt_at (B u) i hlb
              obtain ⟨y0, y1, y2, y3, y4⟩ := HN.out i.toNat hlu
              have hbv : bt (B u) i = ((u[i.toNat]'hlu).toNat : Int) := by have := bt_B u i.toNat hlu; rwa [show ((i.toNat : Nat) : Int) = i by omega] at this
              have hr8 := UInt8.toNat_lt (u[i.toNat]'hlu)
              rw [hbv] at hbt
              obtain ⟨cc, hc⟩ : ∃ cc : Int, ((u[i.toNat]'hlu).toNat : Int) = cc := ⟨_, rfl⟩
              rw [hc] at hbt y1 y2 y3 y4
              have hwith := with_ev zW cc (by omega) (by omega)
              obtain ⟨q, hq⟩ : ∃ q, withW zW cc = q := ⟨_, rfl⟩
              rw [hq] at hwith y1 y2 y3 y4
              have HWV := Lib.hid (show regex_Set_With.f 0 0 0 0 cc = some (q.f0, q.f1, q.f2, q.f3) from hwith)
              clear hwith hbv hc hq hr8
              have q0 : (q.f0 == q.f0) = true := by simp
              have q1 : (q.f1 == q.f1) = true := by simp
              have q2 : (q.f2 == q.f2) = true := by simp
              have q3 : (q.f3 == q.f3) = true := by simp
              have hp1 : (0 ≤ i) = True := eq_true i0
              have hp2 : (i < (1 : Int)) = True := eq_true hli
              have hp3 : (i < ((B u).size : Int)) = True := eq_true (by rw [B_size]; omega)
              go_wp2
              rw [addr0] at y0 y1 y2 y3 y4
              refine start_ (n := 19) (S := fun W : World => W.cell? ⟨w2.heap.size + 1, i.toNat * 6, none⟩ = some (.int .i64 1) ∧ W.cell? ⟨w2.heap.size + 1, i.toNat * 6 + 1, none⟩ = some (.int .u64 q.f0) ∧ W.cell? ⟨w2.heap.size + 1, i.toNat * 6 + 2, none⟩ = some (.int .u64 q.f1) ∧ W.cell? ⟨w2.heap.size + 1, i.toNat * 6 + 3, none⟩ = some (.int .u64 q.f2) ∧ W.cell? ⟨w2.heap.size + 1, i.toNat * 6 + 4, none⟩ = some (.int .u64 q.f3) ∧ NR W (⟨w2.heap.size + 1, 0, none⟩ : Addr) u ∧ Below w.heap.size w W) (ds := []) #[ff,ff,ff,ff,ff,ff,ff,ff,ff,ff,ff,ff,ff,ff,ff,ff,ff,ff,ff] (by kernel_rfl) rfl rfl ⟨y0, y1, y2, y3, y4, NR.drew HN.out, below_drew1 HB.out⟩ (fun hHeld => ?_)
              clear y0 y1 y2 y3 y4 HN HB
              generalize wr.drew = w4 at hHeld ⊢
              refine pure_ (i := 0) (N := some 96) (v := ?_) (a' := ?_) #[tt,ff,ff,ff,ff,ff,ff,ff,ff,ff,ff,ff,ff,ff,ff,ff,ff,ff,ff] rfl rfl (by kernel_rfl) (fun _ _ _ h => h) (Or.inl ⟨by rfl, ?_⟩) ?_ ?_
              rotate_left
              · intro w'
                go_simp
                with_reducible rfl
              rotate_left
              · simp only [Act.put, setA, setZ, setS, i64_w, i32_w]
                rfl
              refine pure_ (i := 1) (N := some 97) (v := ?_) (a' := ?_) #[tt,tt,ff,ff,ff,ff,ff,ff,ff,ff,ff,ff,ff,ff,ff,ff,ff,ff,ff] rfl rfl (by kernel_rfl) (fun _ _ _ h => h) (Or.inl ⟨by rfl, ?_⟩) ?_ ?_
              rotate_left
              · intro w'
                go_simp
                with_reducible rfl
              rotate_left
              · simp only [Act.put, setA, setZ, setS, i64_w, i32_w]
                rfl
              refine pure_ (i := 2) (N := some 98) (v := ?_) (a' := ?_) #[tt,tt,tt,ff,ff,ff,ff,ff,ff,ff,ff,ff,ff,ff,ff,ff,ff,ff,ff] rfl rfl (by kernel_rfl) (fun _ _ _ h => h) (Or.inl ⟨by rfl, ?_⟩) ?_ ?_
              rotate_left
              · intro w'
                go_simp
                with_reducible rfl
              rotate_left
              · simp only [Act.put, setA, setZ, setS, i64_w, i32_w]
                rfl
              refine pure_ (i := 3) (N := some 99) (v := ?_) (a' := ?_) #[tt,tt,tt,tt,ff,ff,ff,ff,ff,ff,ff,ff,ff,ff,ff,ff,ff,ff,ff] rfl rfl (by kernel_rfl) (fun _ _ _ h => h) (Or.inl ⟨by rfl, ?_⟩) ?_ ?_
              rotate_left
              · intro w'
                go_simp
                with_reducible rfl
              rotate_left
              · simp only [Act.put, setA, setZ, setS, i64_w, i32_w]
                rfl
              refine take_ (i := 4) (N := some 100) (v := ?_) (a' := ?_) #[tt,tt,tt,tt,tt,ff,ff,ff,ff,ff,ff,ff,ff,ff,ff,ff,ff,ff,ff] rfl rfl (by kernel_rfl) (fun _ _ _ h => h) (Or.inl ⟨by rfl, ?_⟩) hHeld ?_ ?_
              rotate_left
              · rintro w' ⟨s0, s1, s2, s3, s4, s5, s6⟩
                go_simp
                with_reducible rfl
              rotate_left
              · simp only [Act.put, setA, setZ, setS, i64_w, i32_w]
                rfl
              refine pure_ (i := 5) (N := some 101) (v := ?_) (a' := ?_) #[tt,tt,tt,tt,tt,tt,ff,ff,ff,ff,ff,ff,ff,ff,ff,ff,ff,ff,ff] rfl rfl (by kernel_rfl) (fun _ _ _ h => h) (Or.inl ⟨by rfl, ?_⟩) ?_ ?_
              rotate_left
              · intro w'
                go_simp
                with_reducible rfl
              rotate_left
              · simp only [Act.put, setA, setZ, setS, i64_w, i32_w]
                rfl
              refine pure_ (i := 6) (N := some 102) (v := ?_) (a' := ?_) #[tt,tt,tt,tt,tt,tt,tt,ff,ff,ff,ff,ff,ff,ff,ff,ff,ff,ff,ff] rfl rfl (by kernel_rfl) (fun _ _ _ h => h) (Or.inl ⟨by rfl, ?_⟩) ?_ ?_
              rotate_left
              · intro w'
                go_simp
                with_reducible rfl
              rotate_left
              · simp only [Act.put, setA, setZ, setS, i64_w, i32_w]
                rfl
              refine pure_ (i := 7) (N := some 103) (v := ?_) (a' := ?_) #[tt,tt,tt,tt,tt,tt,tt,tt,ff,ff,ff,ff,ff,ff,ff,ff,ff,ff,ff] rfl rfl (by kernel_rfl) (fun _ _ _ h => h) (Or.inl ⟨by rfl, ?_⟩) ?_ ?_
              rotate_left
              · intro w'
                go_simp
                with_reducible rfl
              rotate_left
              · simp only [Act.put, setA, setZ, setS, i64_w, i32_w]
                rfl
              refine pure_ (i := 8) (N := some 104) (v := ?_) (a' := ?_) #[tt,tt,tt,tt,tt,tt,tt,tt,tt,ff,ff,ff,ff,ff,ff,ff,ff,ff,ff] rfl rfl (by kernel_rfl) (fun _ _ _ h => h) (Or.inl ⟨by rfl, ?_⟩) ?_ ?_
              rotate_left
              · intro w'
                go_simp
                with_reducible rfl
              rotate_left
              · simp only [Act.put, setA, setZ, setS, i64_w, i32_w]
                rfl
              refine pure_ (i := 9) (N := some 105) (v := ?_) (a' := ?_) #[tt,tt,tt,tt,tt,tt,tt,tt,tt,tt,ff,ff,ff,ff,ff,ff,ff,ff,ff] rfl rfl (by kernel_rfl) (fun _ _ _ h => h) (Or.inl ⟨by rfl, ?_⟩) ?_ ?_
              rotate_left
              · intro w'
                go_simp
                with_reducible rfl
              rotate_left
              · simp only [Act.put, setA, setZ, setS, i64_w, i32_w]
                rfl
              refine pure_ (i := 10) (N := some 106) (v := ?_) (a' := ?_) #[tt,tt,tt,tt,tt,tt,tt,tt,tt,tt,tt,ff,ff,ff,ff,ff,ff,ff,ff] rfl rfl (by kernel_rfl) (fun _ _ _ h => h) (Or.inl ⟨by rfl, ?_⟩) ?_ ?_
              rotate_left
              · intro w'
                go_simp
                with_reducible rfl
              rotate_left
              · simp only [Act.put, setA, setZ, setS, i64_w, i32_w]
                rfl
              refine take_ (i := 11) (N := some 107) (v := ?_) (a' := ?_) #[tt,tt,tt,tt,tt,tt,tt,tt,tt,tt,tt,tt,ff,ff,ff,ff,ff,ff,ff] rfl rfl (by kernel_rfl) (fun _ _ _ h => h) (Or.inl ⟨by rfl, ?_⟩) hHeld ?_ ?_
              rotate_left
              · rintro w' ⟨s0, s1, s2, s3, s4, s5, s6⟩
                go_simp
                with_reducible rfl
              rotate_left
              · simp only [Act.put, setA, setZ, setS, i64_w, i32_w]
                rfl
              refine pure_ (i := 12) (N := some 108) (v := ?_) (a' := ?_) #[tt,tt,tt,tt,tt,tt,tt,tt,tt,tt,tt,tt,tt,ff,ff,ff,ff,ff,ff] rfl rfl (by kernel_rfl) (fun _ _ _ h => h) (Or.inl ⟨by rfl, ?_⟩) ?_ ?_
              rotate_left
              · intro w'
                go_simp
                with_reducible rfl
              rotate_left
              · simp only [Act.put, setA, setZ, setS, i64_w, i32_w]
                rfl
              refine pure_ (i := 13) (N := some 109) (v := ?_) (a' := ?_) #[tt,tt,tt,tt,tt,tt,tt,tt,tt,tt,tt,tt,tt,tt,ff,ff,ff,ff,ff] rfl rfl (by kernel_rfl) (fun _ _ _ h => h) (Or.inl ⟨by rfl, ?_⟩) ?_ ?_
              rotate_left
              · intro w'
                go_simp
                with_reducible rfl
              rotate_left
              · simp only [Act.put, setA, setZ, setS, i64_w, i32_w]
                rfl
              refine pure_ (i := 14) (N := some 110) (v := ?_) (a' := ?_) #[tt,tt,tt,tt,tt,tt,tt,tt,tt,tt,tt,tt,tt,tt,tt,ff,ff,ff,ff] rfl rfl (by kernel_rfl) (fun _ _ _ h => h) (Or.inl ⟨by rfl, ?_⟩) ?_ ?_
              rotate_left
              · intro w'
                go_simp
                with_reducible rfl
              rotate_left
              · simp only [Act.put, setA, setZ, setS, i64_w, i32_w]
                rfl
              refine pure_ (i := 15) (N := some 111) (v := ?_) (a' := ?_) #[tt,tt,tt,tt,tt,tt,tt,tt,tt,tt,tt,tt,tt,tt,tt,tt,ff,ff,ff] rfl rfl (by kernel_rfl) (fun _ _ _ h => h) (Or.inl ⟨by rfl, ?_⟩) ?_ ?_
              rotate_left
              · intro w'
                go_simp
                with_reducible rfl
              rotate_left
              · simp only [Act.put, setA, setZ, setS, i64_w, i32_w]
                rfl
              refine one_ (i := 16) (N := some 112) #[tt,tt,tt,tt,tt,tt,tt,tt,tt,tt,tt,tt,tt,tt,tt,tt,tt,ff,ff] rfl rfl (by kernel_rfl) (by decide) (fun K hK => ?_)
              refine goes_ Try.func12 (by kernel_rfl) rfl #[.agg #[.int .u64 0, .int .u64 0, .int .u64 0, .int .u64 0], .int .u8 cc] (by rfl) rfl rfl (by (try simp only [List.map_toArray, List.map_cons, List.map_nil]); first | done | rfl) ?_
              with_reducible refine (with_keeps _ _ _ _ _ (⟨w2.heap.size + 1, 0, none⟩ : Addr) _ _ _ _ _ u cc q.f0 q.f1 q.f2 q.f3 w _ hT hHeld HWV.out).mono ?_
              rintro e w5 ⟨rfl, hS5⟩
              refine ⟨_, rfl, ?_⟩
              refine hK.out _ _ hS5 (fun hHeld => ?_)
              clear hS5
              clear hK K
              refine norm_ (a' := ?_) ?_ ?_
              rotate_left
              · show Act.put _ (some 112) _ = _
                simp only [Act.put, setA, setZ, setS, i64_w, i32_w]
                rfl
              refine pure_ (i := 17) (N := some 113) (v := ?_) (a' := ?_) #[tt,tt,tt,tt,tt,tt,tt,tt,tt,tt,tt,tt,tt,tt,tt,tt,tt,tt,ff] rfl rfl (by kernel_rfl) (fun _ _ _ h => h) (Or.inl ⟨by rfl, ?_⟩) ?_ ?_
              rotate_left
              · intro w'
                go_simp
                with_reducible rfl
              rotate_left
              · simp only [Act.put, setA, setZ, setS, i64_w, i32_w]
                rfl
              refine pure_ (i := 18) (N := some 114) (v := ?_) (a' := ?_) #[tt,tt,tt,tt,tt,tt,tt,tt,tt,tt,tt,tt,tt,tt,tt,tt,tt,tt,tt] rfl rfl (by kernel_rfl) (fun _ _ _ h => h) (Or.inl ⟨by rfl, ?_⟩) ?_ ?_
              rotate_left
              · intro w'
                go_simp
                with_reducible rfl
              rotate_left
              · simp only [Act.put, setA, setZ, setS, i64_w, i32_w]
                rfl
              refine done_ (by kernel_rfl) ?_
              have HN2 := Lib.hid hHeld.2.2.2.2.2.1
              have HB2 := Lib.hid hHeld.2.2.2.2.2.2
              clear hHeld
              try go_wp2
              go_roundg (gk - 1)
              case measure => omega
              case rel => exact ⟨i + 1, by first | rfl | go_num, by omega, by omega, by omega, Lib.hid (by repeat (first | exact HN2.out | apply NR.drewN | apply NR.drew)), Lib.hid (by repeat (first | exact HB2.out | apply pw_below_drewN | apply below_drew1 | apply below_alloc))⟩
            · have hdc : decide (i < (1 : Int)) = false := decide_eq_false hli
              go_wp2_with (go_at_call 11; (with_reducible refine (scribelaw09_awake.calls k true _ (TB.below hT (by repeat (first | exact HB.out | apply pw_below_drewN | apply below_drew1 | apply below_alloc))) HAW.out).mono ?_); rintro e w6 ⟨rfl, hb⟩; have HB6 := Lib.hid (below_step (by repeat (first | exact HB.out | apply pw_below_drewN | apply below_drew1 | apply below_alloc)) hb); clear hb)
              go_ret
              exact ⟨rfl, by repeat (first | exact HB6.out | apply pw_below_drewN | apply below_drew1 | apply below_alloc)⟩
        · have HP := Lib.hid (show regex_Parse.f k (B (quL u)) = some (2, 0, 0, 0, 0, u.map litN, 0, 0) by
            rw [HP0.out, hpr2]
            rcases u with _ | ⟨a, _ | ⟨b, l⟩⟩
            · simp at hl1
            · simp at hl1
            · rfl)
          have hne : ((u.length : Int) != ((B u).size : Int)) = false := by rw [B_size]; simp
          clear hpr2 HP0
          go_wp2_with (go_at_call 10; (with_reducible refine (regex_Parse.calls k _ 2 0 0 0 0 (u.map litN) 0 0 _ (TB.below hT (by repeat (first | exact HB.out | apply pw_below_drewN | apply below_drew1 | apply below_alloc))) HP.out).mono ?_); rintro e w2 ⟨v5, rfl, hR, hB⟩; obtain ⟨A5, c5, e5⟩ := Kd.R_slice hR; rw [List.length_map] at e5; subst e5; obtain ⟨ad, _, _, eA, _⟩ := at_T29 (Kd.R_reads' hR).2.2 0 (by omega) (by simp; omega); subst eA; have HNR := Lib.hid (NR.of_R hR); have HR := Lib.hid hR; have HB2 := Lib.hid (below_step (by repeat (first | exact HB.out | apply pw_below_drewN | apply below_drew1 | apply below_alloc)) hB); clear hR hB)
          go_loopg [93] (u.length + 1) (fun gk v93 wr => ∃ i : Int, v93 = .int .i64 i ∧ 0 ≤ i ∧ i ≤ u.length ∧ (u.length : Int) - i < gk ∧ Hid (NR wr ad u) ∧ Hid (Below w.heap.size w wr))
          case atStart => exact ⟨0, rfl, by omega, by omega, by omega, Lib.hid (by repeat (first | exact HNR.out | apply NR.alloc | apply NR.drewN | apply NR.drew)), Lib.hid (by repeat (first | exact HB2.out | apply pw_below_drewN | apply below_drew1 | apply below_alloc))⟩
          case round =>
            clear HB2
            obtain ⟨i, rfl, i0, i1, i2, HN, HB⟩ := hrel
            by_cases hli : i < (u.length : Int)
            · have hdc : decide (i < (u.length : Int)) = true := decide_eq_true hli
              have hlb : i.toNat < (B u).size := by rw [B_size]; omega
              have hlu : i.toNat < u.length := by omega
              have hbt := bt_at (B u) i hlb
              obtain ⟨y0, y1, y2, y3, y4⟩ := HN.out i.toNat hlu
              have hbv : bt (B u) i = ((u[i.toNat]'hlu).toNat : Int) := by have := bt_B u i.toNat hlu; rwa [show ((i.toNat : Nat) : Int) = i by omega] at this
              have hr8 := UInt8.toNat_lt (u[i.toNat]'hlu)
              rw [hbv] at hbt
              obtain ⟨cc, hc⟩ : ∃ cc : Int, ((u[i.toNat]'hlu).toNat : Int) = cc := ⟨_, rfl⟩
              rw [hc] at hbt y1 y2 y3 y4
              have hwith := with_ev zW cc (by omega) (by omega)
              obtain ⟨q, hq⟩ : ∃ q, withW zW cc = q := ⟨_, rfl⟩
              rw [hq] at hwith y1 y2 y3 y4
              have HWV := Lib.hid (show regex_Set_With.f 0 0 0 0 cc = some (q.f0, q.f1, q.f2, q.f3) from hwith)
              clear hwith hbv hc hq hr8
              have q0 : (q.f0 == q.f0) = true := by simp
              have q1 : (q.f1 == q.f1) = true := by simp
              have q2 : (q.f2 == q.f2) = true := by simp
              have q3 : (q.f3 == q.f3) = true := by simp
              have hp1 : (0 ≤ i) = True := eq_true i0
              have hp2 : (i < (u.length : Int)) = True := eq_true hli
              have hp3 : (i < ((B u).size : Int)) = True := eq_true (by rw [B_size]; omega)
              go_wp2
              refine start_ (n := 19) (S := fun W : World => W.cell? (Addr.add ad (i.toNat * 6)) = some (.int .i64 1) ∧ W.cell? ⟨(Addr.add ad (i.toNat * 6)).block, (Addr.add ad (i.toNat * 6)).off + 1, none⟩ = some (.int .u64 q.f0) ∧ W.cell? ⟨(Addr.add ad (i.toNat * 6)).block, (Addr.add ad (i.toNat * 6)).off + 2, none⟩ = some (.int .u64 q.f1) ∧ W.cell? ⟨(Addr.add ad (i.toNat * 6)).block, (Addr.add ad (i.toNat * 6)).off + 3, none⟩ = some (.int .u64 q.f2) ∧ W.cell? ⟨(Addr.add ad (i.toNat * 6)).block, (Addr.add ad (i.toNat * 6)).off + 4, none⟩ = some (.int .u64 q.f3) ∧ NR W ad u ∧ Below w.heap.size w W) (ds := []) #[ff,ff,ff,ff,ff,ff,ff,ff,ff,ff,ff,ff,ff,ff,ff,ff,ff,ff,ff] (by kernel_rfl) rfl rfl ⟨y0, y1, y2, y3, y4, NR.drew HN.out, below_drew1 HB.out⟩ (fun hHeld => ?_)
              clear y0 y1 y2 y3 y4 HN HB
              generalize wr.drew = w4 at hHeld ⊢
              refine pure_ (i := 0) (N := some 96) (v := ?_) (a' := ?_) #[tt,ff,ff,ff,ff,ff,ff,ff,ff,ff,ff,ff,ff,ff,ff,ff,ff,ff,ff] rfl rfl (by kernel_rfl) (fun _ _ _ h => h) (Or.inl ⟨by rfl, ?_⟩) ?_ ?_
              rotate_left
              · intro w'
                go_simp
                with_reducible rfl
              rotate_left
              · simp only [Act.put, setA, setZ, setS, i64_w, i32_w]
                rfl
              refine pure_ (i := 1) (N := some 97) (v := ?_) (a' := ?_) #[tt,tt,ff,ff,ff,ff,ff,ff,ff,ff,ff,ff,ff,ff,ff,ff,ff,ff,ff] rfl rfl (by kernel_rfl) (fun _ _ _ h => h) (Or.inl ⟨by rfl, ?_⟩) ?_ ?_
              rotate_left
              · intro w'
                go_simp
                with_reducible rfl
              rotate_left
              · simp only [Act.put, setA, setZ, setS, i64_w, i32_w]
                rfl
              refine pure_ (i := 2) (N := some 98) (v := ?_) (a' := ?_) #[tt,tt,tt,ff,ff,ff,ff,ff,ff,ff,ff,ff,ff,ff,ff,ff,ff,ff,ff] rfl rfl (by kernel_rfl) (fun _ _ _ h => h) (Or.inl ⟨by rfl, ?_⟩) ?_ ?_
              rotate_left
              · intro w'
                go_simp
                with_reducible rfl
              rotate_left
              · simp only [Act.put, setA, setZ, setS, i64_w, i32_w]
                rfl
              refine pure_ (i := 3) (N := some 99) (v := ?_) (a' := ?_) #[tt,tt,tt,tt,ff,ff,ff,ff,ff,ff,ff,ff,ff,ff,ff,ff,ff,ff,ff] rfl rfl (by kernel_rfl) (fun _ _ _ h => h) (Or.inl ⟨by rfl, ?_⟩) ?_ ?_
              rotate_left
              · intro w'
                go_simp
                with_reducible rfl
              rotate_left
              · simp only [Act.put, setA, setZ, setS, i64_w, i32_w]
                rfl
              refine take_ (i := 4) (N := some 100) (v := ?_) (a' := ?_) #[tt,tt,tt,tt,tt,ff,ff,ff,ff,ff,ff,ff,ff,ff,ff,ff,ff,ff,ff] rfl rfl (by kernel_rfl) (fun _ _ _ h => h) (Or.inl ⟨by rfl, ?_⟩) hHeld ?_ ?_
              rotate_left
              · rintro w' ⟨s0, s1, s2, s3, s4, s5, s6⟩
                go_simp
                with_reducible rfl
              rotate_left
              · simp only [Act.put, setA, setZ, setS, i64_w, i32_w]
                rfl
              refine pure_ (i := 5) (N := some 101) (v := ?_) (a' := ?_) #[tt,tt,tt,tt,tt,tt,ff,ff,ff,ff,ff,ff,ff,ff,ff,ff,ff,ff,ff] rfl rfl (by kernel_rfl) (fun _ _ _ h => h) (Or.inl ⟨by rfl, ?_⟩) ?_ ?_
              rotate_left
              · intro w'
                go_simp
                with_reducible rfl
              rotate_left
              · simp only [Act.put, setA, setZ, setS, i64_w, i32_w]
                rfl
              refine pure_ (i := 6) (N := some 102) (v := ?_) (a' := ?_) #[tt,tt,tt,tt,tt,tt,tt,ff,ff,ff,ff,ff,ff,ff,ff,ff,ff,ff,ff] rfl rfl (by kernel_rfl) (fun _ _ _ h => h) (Or.inl ⟨by rfl, ?_⟩) ?_ ?_
              rotate_left
              · intro w'
                go_simp
                with_reducible rfl
              rotate_left
              · simp only [Act.put, setA, setZ, setS, i64_w, i32_w]
                rfl
              refine pure_ (i := 7) (N := some 103) (v := ?_) (a' := ?_) #[tt,tt,tt,tt,tt,tt,tt,tt,ff,ff,ff,ff,ff,ff,ff,ff,ff,ff,ff] rfl rfl (by kernel_rfl) (fun _ _ _ h => h) (Or.inl ⟨by rfl, ?_⟩) ?_ ?_
              rotate_left
              · intro w'
                go_simp
                with_reducible rfl
              rotate_left
              · simp only [Act.put, setA, setZ, setS, i64_w, i32_w]
                rfl
              refine pure_ (i := 8) (N := some 104) (v := ?_) (a' := ?_) #[tt,tt,tt,tt,tt,tt,tt,tt,tt,ff,ff,ff,ff,ff,ff,ff,ff,ff,ff] rfl rfl (by kernel_rfl) (fun _ _ _ h => h) (Or.inl ⟨by rfl, ?_⟩) ?_ ?_
              rotate_left
              · intro w'
                go_simp
                with_reducible rfl
              rotate_left
              · simp only [Act.put, setA, setZ, setS, i64_w, i32_w]
                rfl
              refine pure_ (i := 9) (N := some 105) (v := ?_) (a' := ?_) #[tt,tt,tt,tt,tt,tt,tt,tt,tt,tt,ff,ff,ff,ff,ff,ff,ff,ff,ff] rfl rfl (by kernel_rfl) (fun _ _ _ h => h) (Or.inl ⟨by rfl, ?_⟩) ?_ ?_
              rotate_left
              · intro w'
                go_simp
                with_reducible rfl
              rotate_left
              · simp only [Act.put, setA, setZ, setS, i64_w, i32_w]
                rfl
              refine pure_ (i := 10) (N := some 106) (v := ?_) (a' := ?_) #[tt,tt,tt,tt,tt,tt,tt,tt,tt,tt,tt,ff,ff,ff,ff,ff,ff,ff,ff] rfl rfl (by kernel_rfl) (fun _ _ _ h => h) (Or.inl ⟨by rfl, ?_⟩) ?_ ?_
              rotate_left
              · intro w'
                go_simp
                with_reducible rfl
              rotate_left
              · simp only [Act.put, setA, setZ, setS, i64_w, i32_w]
                rfl
              refine take_ (i := 11) (N := some 107) (v := ?_) (a' := ?_) #[tt,tt,tt,tt,tt,tt,tt,tt,tt,tt,tt,tt,ff,ff,ff,ff,ff,ff,ff] rfl rfl (by kernel_rfl) (fun _ _ _ h => h) (Or.inl ⟨by rfl, ?_⟩) hHeld ?_ ?_
              rotate_left
              · rintro w' ⟨s0, s1, s2, s3, s4, s5, s6⟩
                go_simp
                with_reducible rfl
              rotate_left
              · simp only [Act.put, setA, setZ, setS, i64_w, i32_w]
                rfl
              refine pure_ (i := 12) (N := some 108) (v := ?_) (a' := ?_) #[tt,tt,tt,tt,tt,tt,tt,tt,tt,tt,tt,tt,tt,ff,ff,ff,ff,ff,ff] rfl rfl (by kernel_rfl) (fun _ _ _ h => h) (Or.inl ⟨by rfl, ?_⟩) ?_ ?_
              rotate_left
              · intro w'
                go_simp
                with_reducible rfl
              rotate_left
              · simp only [Act.put, setA, setZ, setS, i64_w, i32_w]
                rfl
              refine pure_ (i := 13) (N := some 109) (v := ?_) (a' := ?_) #[tt,tt,tt,tt,tt,tt,tt,tt,tt,tt,tt,tt,tt,tt,ff,ff,ff,ff,ff] rfl rfl (by kernel_rfl) (fun _ _ _ h => h) (Or.inl ⟨by rfl, ?_⟩) ?_ ?_
              rotate_left
              · intro w'
                go_simp
                with_reducible rfl
              rotate_left
              · simp only [Act.put, setA, setZ, setS, i64_w, i32_w]
                rfl
              refine pure_ (i := 14) (N := some 110) (v := ?_) (a' := ?_) #[tt,tt,tt,tt,tt,tt,tt,tt,tt,tt,tt,tt,tt,tt,tt,ff,ff,ff,ff] rfl rfl (by kernel_rfl) (fun _ _ _ h => h) (Or.inl ⟨by rfl, ?_⟩) ?_ ?_
              rotate_left
              · intro w'
                go_simp
                with_reducible rfl
              rotate_left
              · simp only [Act.put, setA, setZ, setS, i64_w, i32_w]
                rfl
              refine pure_ (i := 15) (N := some 111) (v := ?_) (a' := ?_) #[tt,tt,tt,tt,tt,tt,tt,tt,tt,tt,tt,tt,tt,tt,tt,tt,ff,ff,ff] rfl rfl (by kernel_rfl) (fun _ _ _ h => h) (Or.inl ⟨by rfl, ?_⟩) ?_ ?_
              rotate_left
              · intro w'
                go_simp
                with_reducible rfl
              rotate_left
              · simp only [Act.put, setA, setZ, setS, i64_w, i32_w]
                rfl
              refine one_ (i := 16) (N := some 112) #[tt,tt,tt,tt,tt,tt,tt,tt,tt,tt,tt,tt,tt,tt,tt,tt,tt,ff,ff] rfl rfl (by kernel_rfl) (by decide) (fun K hK => ?_)
              refine goes_ Try.func12 (by kernel_rfl) rfl #[.agg #[.int .u64 0, .int .u64 0, .int .u64 0, .int .u64 0], .int .u8 cc] (by rfl) rfl rfl (by (try simp only [List.map_toArray, List.map_cons, List.map_nil]); first | done | rfl) ?_
              with_reducible refine (with_keeps _ _ _ _ _ ad _ _ _ _ _ u cc q.f0 q.f1 q.f2 q.f3 w _ hT hHeld HWV.out).mono ?_
              rintro e w5 ⟨rfl, hS5⟩
              refine ⟨_, rfl, ?_⟩
              refine hK.out _ _ hS5 (fun hHeld => ?_)
              clear hS5
              clear hK K
              refine norm_ (a' := ?_) ?_ ?_
              rotate_left
              · show Act.put _ (some 112) _ = _
                simp only [Act.put, setA, setZ, setS, i64_w, i32_w]
                rfl
              refine pure_ (i := 17) (N := some 113) (v := ?_) (a' := ?_) #[tt,tt,tt,tt,tt,tt,tt,tt,tt,tt,tt,tt,tt,tt,tt,tt,tt,tt,ff] rfl rfl (by kernel_rfl) (fun _ _ _ h => h) (Or.inl ⟨by rfl, ?_⟩) ?_ ?_
              rotate_left
              · intro w'
                go_simp
                with_reducible rfl
              rotate_left
              · simp only [Act.put, setA, setZ, setS, i64_w, i32_w]
                rfl
              refine pure_ (i := 18) (N := some 114) (v := ?_) (a' := ?_) #[tt,tt,tt,tt,tt,tt,tt,tt,tt,tt,tt,tt,tt,tt,tt,tt,tt,tt,tt] rfl rfl (by kernel_rfl) (fun _ _ _ h => h) (Or.inl ⟨by rfl, ?_⟩) ?_ ?_
              rotate_left
              · intro w'
                go_simp
                with_reducible rfl
              rotate_left
              · simp only [Act.put, setA, setZ, setS, i64_w, i32_w]
                rfl
              refine done_ (by kernel_rfl) ?_
              have HN2 := Lib.hid hHeld.2.2.2.2.2.1
              have HB2 := Lib.hid hHeld.2.2.2.2.2.2
              clear hHeld
              try go_wp2
              go_roundg (gk - 1)
              case measure => omega
              case rel => exact ⟨i + 1, by first | rfl | go_num, by omega, by omega, by omega, Lib.hid (by repeat (first | exact HN2.out | apply NR.drewN | apply NR.drew)), Lib.hid (by repeat (first | exact HB2.out | apply pw_below_drewN | apply below_drew1 | apply below_alloc))⟩
            · have hdc : decide (i < (u.length : Int)) = false := decide_eq_false hli
              go_wp2_with (go_at_call 11; (with_reducible refine (scribelaw09_awake.calls k true _ (TB.below hT (by repeat (first | exact HB.out | apply pw_below_drewN | apply below_drew1 | apply below_alloc))) HAW.out).mono ?_); rintro e w6 ⟨rfl, hb⟩; have HB6 := Lib.hid (below_step (by repeat (first | exact HB.out | apply pw_below_drewN | apply below_drew1 | apply below_alloc)) hb); clear hb)
              go_ret
              exact ⟨rfl, by repeat (first | exact HB6.out | apply pw_below_drewN | apply below_drew1 | apply below_alloc)⟩
end Go.Proofs.Ytdjnjhmmpjbbaaa.Pr
