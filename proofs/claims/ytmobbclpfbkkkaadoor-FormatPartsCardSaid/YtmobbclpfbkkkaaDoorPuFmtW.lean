/- format.Print: the walk over a format's signs, by the contracts of what it calls. -/
import Derived.Test.YtmobbclpfbkkkaaDoorPuFmtM
import Derived.Test.YtmobbclpfbkkkaaDoorPuFmtP
import Derived.Lib.OthersKept
import Derived.RegionTactic
import Derived.Test.YtmobbclpfbkkkaaDoorPr12
import Derived.Test.YtmobbclpfbkkkaaDoorPr13
import Derived.Test.YtmobbclpfbkkkaaDoorPr14
namespace Go.Proofs.YtmobbclpfbkkkaaDoor.Pr
open Go Go.RowKit Go.Proofs.YtmobbclpfbkkkaaDoorW.PrintWords Go.Proofs.YtmobbclpfbkkkaaDoorW.PrintLast Go.Proofs.YtmobbclpfbkkkaaDoorW.PrintMore

def cl (x : S32) : Cl := (x.f0, x.f1, x.f2.data.toList)
structure PInv (l : List UInt8) (args0 : List Cl) (i : Nat) (args : List S32) (out : List UInt8) : Prop where
  le : i ≤ l.length
  out_le : out.length ≤ 4000 + i
  eq : printS (l.drop i) (args.map cl) out = printS l args0 []
  ok : ∀ x ∈ args, okCl (cl x)

/-- a builder stays one where one block alone, of another type, has turned -/
theorem builder_move {B b : Nat} {bs : List Value} {W W2 : World} {g : Nat} {cs : Array Value} {t : TypeId} (h : Lib.IsBuilderF 48 5 B b bs W) (hg : W.heap[g]? = some (.cells cs t (0, 0))) (h1 : t ≠ 48) (h2 : t ≠ 5)
    (hk : ∀ k, k < W.heap.size → k ≠ g → W2.heap[k]? = W.heap[k]?) : Lib.IsBuilderF 48 5 B b bs W2 := by
  have at_ : ∀ p, Lib.BuilderAtF 48 5 B b p bs W → Lib.BuilderAtF 48 5 B b p bs W2 := by
    rintro p ⟨hB, v, hb, hown, hne⟩
    have lt : ∀ {k : Nat} {o : Obj}, W.heap[k]? = some o → k < W.heap.size := fun h => (Array.getElem?_eq_some_iff.1 h).1
    have hbg : b ≠ g := by
      rintro rfl
      rw [hg] at hb
      injection hb with hb
      injection hb with _ e _
      exact h1 e
    refine ⟨hB, v, (hk b (lt hb) hbg).trans hb, ⟨hown.1, ?_⟩, hne⟩
    rcases hown.2 with hn | ⟨q, cap, cur, fz, hv, hbase, hq, rest⟩
    · exact .inl hn
    · refine .inr ⟨q, cap, cur, fz, hv, hbase, (hk q (lt hq) ?_).trans hq, rest⟩
      rintro rfl
      rw [hg] at hq
      injection hq with hq
      injection hq with _ e _
      exact h2 e
  exact h.elim (fun x => .inl (at_ _ x)) (fun x => .inr (at_ _ x))
theorem state_move {w W W2 : World} {g b : Nat} {s : ByteArray} {i : Int} {cs : Array Value} (h : IsS45 w W g s i) (hk : Lib.OthersKept 5 (some b) W W2) (hb : W.heap[b]? = some (.cells cs 48 (0, 0))) : IsS45 w W2 g s i := by
  refine ⟨hk g _ h.1 (fun e => ?_) (fun c fz e => ?_), h.2⟩
  · injection e with e
    subst e
    have := h.1.symm.trans hb
    injection this with this
    injection this with _ e _
    exact absurd e (by decide)
  · injection e with _ e _
    exact absurd e (by decide)
theorem builder_at {B b : Nat} {bs : List Value} {W : World} (h : Lib.IsBuilderF 48 5 B b bs W) : ∃ cs, W.heap[b]? = some (.cells cs 48 (0, 0)) := by
  rcases h with ⟨_, v, hb, _⟩ | ⟨_, v, hb, _⟩ <;> exact ⟨_, hb⟩
theorem builder_len (B b : Nat) (bs : List Value) (w : World) (h : Lib.IsBuilderF 48 5 B b bs w) :
    Calls Tryd.prog 22 #[.pointer (some ⟨b, 0, none⟩)] w fun e w' => e = .returned (.int .i64 bs.length) ∧ w' = w := Any.Builder_Len_f lb170 B b bs w h
theorem builder_string (B b : Nat) (l : List UInt8) (w : World) (h : Lib.IsBuilderF 48 5 B b (Lib.byteCells l) w) (hBw : B ≤ w.heap.size) :
    Calls Tryd.prog 23 #[.pointer (some ⟨b, 0, none⟩)] w fun e w' => e = .returned (.string (Pr.B l)) ∧ Below B w w' := (Any.Builder_String_any_k lb169 Tryd.Builder_Extra_105 B b l w h hBw).mono fun _ _ h => ⟨h.1, h.2.2.1⟩
theorem byteCells_snoc (l : List UInt8) (c : UInt8) : Lib.byteCells l ++ [.int .u8 (c.toNat : Int)] = Lib.byteCells (l ++ [c]) := by
  simp [Lib.byteCells]

set_option maxHeartbeats 6400000 in
set_option maxRecDepth 100000 in
theorem format_Print_walk (l : List UInt8) (hl : l.length ≤ 100000) (A1 : Option Addr) (c1 : Nat) (l1 : List S32) (w : World) (hr1 : Kd.C k32 w A1 l1.length l1) (hc1 : l1.length ≤ c1) (hT : TB w) (hok : ∀ x ∈ l1, okCl (cl x)) :
    Calls Tryd.prog 10 #[.string (B l), .slice A1 l1.length c1] w fun e w' => e = .returned (.tuple #[.string (B (printS l (l1.map cl) []).1), .int .i64 (printS l (l1.map cl) []).2]) ∧ Below w.heap.size w w' := by
  have hu54 := Tryd.underlying54
  have hu32 := Tryd.underlying32
  go_enter Tryd.func10, Tryd.ntmps10
  go_wp2_with fail
  have HI0 : IsS45 w ((w.alloc (.cells #[.string (B l), .int .i64 0] 45)).alloc (.cells #[.pointer none, .slice none 0 0] 48)) w.heap.size (B l) ((0 : Nat) : Int) := (IsS45.new w w (B l) 0 (Below.refl _ _)).alloc _
  have HU0 : Lib.IsBuilderF 48 5 w.heap.size (w.heap.size + 1) (Lib.byteCells []) ((w.alloc (.cells #[.string (B l), .int .i64 0] 45)).alloc (.cells #[.pointer none, .slice none 0 0] 48)) :=
    Lib.IsBuilderF.of (.inl ⟨by omega, _, by have := heap_alloc_new (w.alloc (.cells #[.string (B l), .int .i64 0] 45)) (.cells #[.pointer none, .slice none 0 0] 48); simpa using this, World.ownsRow_nil _ _ _ _, by simp [Value.ownBlock]⟩)
  have HB0 : Below w.heap.size w ((w.alloc (.cells #[.string (B l), .int .i64 0] 45)).alloc (.cells #[.pointer none, .slice none 0 0] 48)) := ((Below.refl _ _).alloc (Nat.le_refl _) _).alloc (by simp) _
  have HP0 : PInv l (l1.map cl) 0 l1 [] := ⟨Nat.zero_le _, by simp, rfl, hok⟩
  clear hok
  go_loopg [1] l.length (fun kq v1 wr => ∃ (i : Nat) (args : List S32) (A : Option Addr) (c : Nat) (out : List UInt8), v1 = .slice A args.length c ∧ l.length ≤ i + kq ∧ PInv l (l1.map cl) i args out ∧ IsS45 w wr w.heap.size (B l) (i : Int) ∧ Lib.IsBuilderF 48 5 w.heap.size (w.heap.size + 1) (Lib.byteCells out) wr ∧ Below w.heap.size w wr ∧ Kd.C k32 w A args.length args ∧ args.length ≤ c)
  case atStart => exact ⟨0, l1, A1, c1, [], rfl, by omega, HP0, HI0, HU0, HB0, hr1, hc1⟩
  case round =>
    clear HI0 HU0 HB0 HP0
    obtain ⟨i, args, A, c, out, rfl, hq, HP, HI, HU, HB, HC, hc⟩ := hrel
    rename World => W0
    have hcz := cellS45_1 HI.1
    have hfz := blk_frozen HI.1 1
    have hsz : w.heap.size ≤ W0.heap.size := HB.size
    by_cases hi : i < l.length
    · have hlt : decide (i < (B l).size) = true := by rw [B_size]; exact decide_eq_true hi
      obtain ⟨c0, r, hdr⟩ : ∃ c0 r, l.drop i = c0 :: r := ⟨_, _, List.drop_eq_getElem_cons hi⟩
      obtain ⟨_, _, hdr'⟩ := bt_drop hdr
      have hnx := next_ev l (c0 :: r) i hdr (by omega)
      have hHd : hd (c0 :: r) = (c0.toNat : Int) := rfl
      rw [hHd] at hnx
      have HNX := Lib.hid hnx
      have HDR := Lib.hid hdr
      have HDR' := Lib.hid hdr'
      clear hnx hHd hdr hdr'
      have hc8 := UInt8.toNat_lt c0
      by_cases h37 : c0.toNat = 37
      · obtain rfl : c0 = 37 := UInt8.toNat_inj.1 h37
        have h37b : ((((37 : UInt8).toNat : Nat) : Int) != 37) = false := rfl
        have hsuf := specS_suf r
        have hlow := specS_low r
        have hbd := specS_bounds r
        obtain ⟨k2, hsp⟩ := Ev.rounds (spec_ev l hl r (i + 1) HDR'.out (by omega))
        have heq := HP.eq
        rw [HDR.out, printS_conv] at heq
        have hlr : r.length + (i + 1) = l.length := by have := congrArg List.length HDR'.out; rw [List.length_drop] at this; omega
        have hdrop := drop_at l _ (hsuf.trans (suf_drop HDR'.out))
        have hrl := hsuf.length_le
        generalize specS r = S at *
        obtain ⟨⟨⟨fl, fz, fp, fb⟩, wd, pr, vb⟩, er, rest⟩ := S
        have HSP := Lib.hid hsp
        have HEQ := Lib.hid heq
        have HDP := Lib.hid hdrop
        clear hsp heq hdrop hsuf
        simp only at hlow hbd hrl
        have hvb := UInt8.toNat_lt vb
        by_cases her : er = 0
        · subst her
          have herb : ((0 : Int) != 0) = false := rfl
          by_cases hv : vb = 37
          · have hvb2 : ((vb.toNat : Int) == 37) = true := by rw [hv]; rfl
            go_wp2_with (first
            | (go_at_call 17; refine (format_reader_next.calls w.heap.size (B l) i _ _ _ w _ HI HB hT HNX.out).mono ?_; rintro e w2 ⟨rfl, HI2, HB2, HK2⟩;
               have hcz2 := cellS45_1 HI2.1; have hfz2 := blk_frozen HI2.1 1;
               have HU2 := builder_move HU HI.1 (by decide) (by decide) (fun k h1 h2 => HK2.2 k h1 h2 (by simp));
               have HI3 := HI2.set_1 ((i : Int) + 1);
               have HU3 := builder_move HU2 HI2.1 (by decide) (by decide) (fun k h1 h2 => Below.heap_setCell w2 ⟨w.heap.size, 1, none⟩ (.int .i64 ((i : Int) + 1)) k h2);
               have HB3 : Below w.heap.size w (w2.setCell ⟨w.heap.size, 1, none⟩ (.int .i64 ((i : Int) + 1))) := HB2.setCell (Nat.le_refl _) _)
            | (go_at_call 19; refine (format_reader_spec.calls k2 w.heap.size (B l) ((i : Int) + 1) fl fz fp fb (wd : Int) pr (vb.toNat : Int) 0 (B l) ((l.length - rest.length : Nat) : Int) w _ HI3 HB3 hT HSP.out).mono ?_; rintro e w4 ⟨rfl, HI4, HB4, HK4⟩;
               have HU4 := builder_move HU3 HI3.1 (by decide) (by decide) (fun k h1 h2 => HK4.2 k h1 h2 (by simp)); have hs4 := HB4.size)
              | (go_at_call 18; refine (builder_writeByte w.heap.size (w.heap.size + 1) (Lib.byteCells out) 37 _ (HU4.alloc _) (by simp [Lib.byteCells]; have := HP.out_le; have := HP.le; omega) (HB4.alloc hs4 _).size).mono ?_; rintro e w6 ⟨rfl, HU6, HB6, HO6⟩))
            obtain ⟨cs5, hb5⟩ := builder_at (HU4.alloc (.cells #[.bool fl, .bool fz, .bool fp, .bool fb, .int .i64 (wd : Int), .int .i64 pr, .int .u8 37] 54))
            have HP' : PInv l (l1.map cl) (l.length - rest.length) args (out ++ [37]) := by
              refine ⟨by omega, by rw [List.length_append, List.length_singleton]; have := HP.out_le; omega, ?_, HP.ok⟩
              rw [HDP.out, ← HEQ.out, if_neg (by simp), if_pos hv]
            go_roundg (gk - 1)
            case measure => omega
            case rel =>
              have e6 : Lib.byteCells out ++ [.int .u8 37] = Lib.byteCells (out ++ [37]) := byteCells_snoc out 37
              rw [e6] at HU6
              exact ⟨_, args, A, c, out ++ [37], rfl, by omega, HP', state_move (HI4.alloc _) HO6 hb5, .inr HU6, (HB4.alloc hs4 _).trans HB6, HC, hc⟩
          · have hvb2 : ((vb.toNat : Int) == 37) = false := by
              have : vb.toNat ≠ 37 := fun e => hv (UInt8.toNat_inj.1 e)
              simp; omega
            obtain ⟨hwd, hpr⟩ := hbd rfl
            have hax := okCl_head (args.map cl) (fun x hx => by
              obtain ⟨y, hy, rfl⟩ := List.mem_map.1 hx
              exact HP.ok y hy)
            obtain ⟨ax, hax1⟩ : ∃ ax, (args.map cl).headD (0, 0, []) = ax := ⟨_, rfl⟩
            have HAX := Lib.hid hax1
            rw [hax1] at hax
            clear hax1
            obtain ⟨k3, hone⟩ := Ev.rounds (one_ev ⟨⟨fl, fz, fp, fb⟩, wd, pr, vb⟩ ax.1 ax.2.1 ax.2.2 hwd hpr hlow hax.1 (by have := hax.2.2; omega) (by have := hax.2.1; omega))
            have hol := oneC_le ⟨⟨fl, fz, fp, fb⟩, wd, pr, vb⟩ ax hax hwd hpr
            unfold oneC at hol
            have heq := HEQ.out
            rw [if_neg (by simp), if_neg hv, HAX.out] at heq
            have HEQ2 := Lib.hid heq
            clear heq
            generalize oneS ⟨⟨fl, fz, fp, fb⟩, wd, pr, vb⟩ ax.1 ax.2.1 ax.2.2 = o at *
            have HON := Lib.hid hone
            clear hone
            have hsc : Lib.strCells (B o) = Lib.byteCells o := by simp [Lib.strCells, Lib.byteCells, B]
            have HSC := Lib.hid hsc
            clear hsc
            have hpo := HP.out_le
            have hpi := HP.le
            cases args with
            | nil =>
              obtain rfl : ax = (0, 0, []) := HAX.out.symm
              by_cases hbig : 4000 < (out ++ o).length
              · have hbb : decide ((out.length : Int) + (o.length : Int) > 4000) = true := decide_eq_true (by rw [List.length_append] at hbig; omega)
                go_wp2_with (first
                | (go_at_call 17; refine (format_reader_next.calls w.heap.size (B l) i _ _ _ w _ HI HB hT HNX.out).mono ?_; rintro e w2 ⟨rfl, HI2, HB2, HK2⟩;
                   have hcz2 := cellS45_1 HI2.1; have hfz2 := blk_frozen HI2.1 1;
                   have HU2 := builder_move HU HI.1 (by decide) (by decide) (fun k h1 h2 => HK2.2 k h1 h2 (by simp));
                   have HI3 := HI2.set_1 ((i : Int) + 1);
                   have HU3 := builder_move HU2 HI2.1 (by decide) (by decide) (fun k h1 h2 => Below.heap_setCell w2 ⟨w.heap.size, 1, none⟩ (.int .i64 ((i : Int) + 1)) k h2);
                   have HB3 : Below w.heap.size w (w2.setCell ⟨w.heap.size, 1, none⟩ (.int .i64 ((i : Int) + 1))) := HB2.setCell (Nat.le_refl _) _)
                | (go_at_call 19; refine (format_reader_spec.calls k2 w.heap.size (B l) ((i : Int) + 1) fl fz fp fb (wd : Int) pr (vb.toNat : Int) 0 (B l) ((l.length - rest.length : Nat) : Int) w _ HI3 HB3 hT HSP.out).mono ?_; rintro e w4 ⟨rfl, HI4, HB4, HK4⟩;
                   have HU4 := builder_move HU3 HI3.1 (by decide) (by decide) (fun k h1 h2 => HK4.2 k h1 h2 (by simp)); have hs4 := HB4.size)
                | (go_at_call 21; refine (format_spec_one.calls k3 fl fz fp fb (wd : Int) pr (vb.toNat : Int) 0 0 (B []) (B o) _ (hT.below ((HB4.alloc hs4 _).alloc (by simp; omega) _)) HON.out).mono ?_; rintro e w6 ⟨rfl, HB6⟩)
                | (go_at_call 20; refine (builder_writeString w.heap.size (w.heap.size + 1) (Lib.byteCells out) (B o) _ (builder_move ((HU4.alloc _).alloc _) ((HI4.alloc _).alloc _).1 (by decide) (by decide) (fun k h1 _ => HB6.block k h1)) (by simp [Lib.byteCells, B_size]; omega) (by have := HB6.size; simp at this; omega)).mono ?_; rintro e w8 ⟨rfl, HU8, HB8, HO8⟩)
                | (go_at_call 22; refine (builder_len _ _ _ _ (.inr HU8)).mono ?_; rintro e w9 ⟨rfl, rfl⟩; rw [show (Lib.byteCells out ++ Lib.strCells (B o)).length = (out ++ o).length by simp [Lib.byteCells, Lib.strCells, B]]))
                go_ret2
                refine ⟨?_, ?_⟩
                · rw [← HEQ2.out, if_pos hbig]
                  rfl
                · exact ((HB4.alloc hs4 _).alloc (by simp; omega) _ |>.trans (HB6.mono (by simp; omega))).trans HB8
              · have hbb : decide ((out.length : Int) + (o.length : Int) > 4000) = false := decide_eq_false (by rw [List.length_append] at hbig; omega)
                go_wp2_with (first
                | (go_at_call 17; refine (format_reader_next.calls w.heap.size (B l) i _ _ _ w _ HI HB hT HNX.out).mono ?_; rintro e w2 ⟨rfl, HI2, HB2, HK2⟩;
                   have hcz2 := cellS45_1 HI2.1; have hfz2 := blk_frozen HI2.1 1;
                   have HU2 := builder_move HU HI.1 (by decide) (by decide) (fun k h1 h2 => HK2.2 k h1 h2 (by simp));
                   have HI3 := HI2.set_1 ((i : Int) + 1);
                   have HU3 := builder_move HU2 HI2.1 (by decide) (by decide) (fun k h1 h2 => Below.heap_setCell w2 ⟨w.heap.size, 1, none⟩ (.int .i64 ((i : Int) + 1)) k h2);
                   have HB3 : Below w.heap.size w (w2.setCell ⟨w.heap.size, 1, none⟩ (.int .i64 ((i : Int) + 1))) := HB2.setCell (Nat.le_refl _) _)
                | (go_at_call 19; refine (format_reader_spec.calls k2 w.heap.size (B l) ((i : Int) + 1) fl fz fp fb (wd : Int) pr (vb.toNat : Int) 0 (B l) ((l.length - rest.length : Nat) : Int) w _ HI3 HB3 hT HSP.out).mono ?_; rintro e w4 ⟨rfl, HI4, HB4, HK4⟩;
                   have HU4 := builder_move HU3 HI3.1 (by decide) (by decide) (fun k h1 h2 => HK4.2 k h1 h2 (by simp)); have hs4 := HB4.size)
                | (go_at_call 21; refine (format_spec_one.calls k3 fl fz fp fb (wd : Int) pr (vb.toNat : Int) 0 0 (B []) (B o) _ (hT.below ((HB4.alloc hs4 _).alloc (by simp; omega) _)) HON.out).mono ?_; rintro e w6 ⟨rfl, HB6⟩)
                | (go_at_call 20; refine (builder_writeString w.heap.size (w.heap.size + 1) (Lib.byteCells out) (B o) _ (builder_move ((HU4.alloc _).alloc _) ((HI4.alloc _).alloc _).1 (by decide) (by decide) (fun k h1 _ => HB6.block k h1)) (by simp [Lib.byteCells, B_size]; omega) (by have := HB6.size; simp at this; omega)).mono ?_; rintro e w8 ⟨rfl, HU8, HB8, HO8⟩)
                | (go_at_call 22; refine (builder_len _ _ _ _ (.inr HU8)).mono ?_; rintro e w9 ⟨rfl, rfl⟩; rw [show (Lib.byteCells out ++ Lib.strCells (B o)).length = (out ++ o).length by simp [Lib.byteCells, Lib.strCells, B]]))
                obtain ⟨cs7, hb7⟩ := builder_at (builder_move ((HU4.alloc _).alloc _) ((HI4.alloc _).alloc _).1 (by decide) (by decide) (fun k h1 _ => HB6.block k h1))
                have HP' : PInv l (l1.map cl) (l.length - rest.length) [] (out ++ o) := by
                  refine ⟨by omega, by omega, ?_, fun x hx => by simp at hx⟩
                  have h := HEQ2.out
                  rw [if_neg hbig] at h
                  rw [HDP.out]
                  exact h
                go_roundg (gk - 1)
                case measure => omega
                case rel =>
                  rw [HSC.out, show Lib.byteCells out ++ Lib.byteCells o = Lib.byteCells (out ++ o) by simp [Lib.byteCells]] at HU8
                  exact ⟨_, [], A, c, out ++ o, rfl, by omega, HP', state_move (((HI4.alloc _).alloc _).below HB6) HO8 hb7, .inr HU8, ((HB4.alloc hs4 _).alloc (by simp; omega) _ |>.trans (HB6.mono (by simp; omega))).trans HB8, HC, hc⟩
            | cons x xs =>
              have hC1 := Kd.C_drop (m := 1) HC (by simp) hc
              obtain ⟨hxl, hxm, hxr⟩ := HC
              obtain ⟨ad, rfl, hrow⟩ := hxr (by simp)
              obtain ⟨cc, hccl, hK, hcell⟩ := hrow 0 x rfl
              obtain rfl := k32_open hK
              have hcw0 : w.cell? ad = some (.int .i64 x.f0) := by have := hcell 0 _ rfl; rw [show 0 * k32.sz + 0 = 0 from rfl, Addr.add_zero'] at this; exact this
              have hcw1 : w.cell? ⟨ad.block, ad.off + 1, none⟩ = some (.int .i64 x.f1) := by have := hcell 1 _ rfl; rw [show ad.add (0 * k32.sz + 1) = ⟨ad.block, ad.off + 1, none⟩ by simp [Addr.add]] at this; exact this
              have hcw2 : w.cell? ⟨ad.block, ad.off + 2, none⟩ = some (.string x.f2) := by have := hcell 2 _ rfl; rw [show ad.add (0 * k32.sz + 2) = ⟨ad.block, ad.off + 2, none⟩ by simp [Addr.add]] at this; exact this
              have hlt0 := World.block_lt_of_cell? w _ hcw0
              have hlt1 := World.block_lt_of_cell? w _ hcw1
              have hlt2 := World.block_lt_of_cell? w _ hcw2
              obtain rfl : ax = cl x := HAX.out.symm
              clear hrow hcell hK hxr hxl hxm hccl
              obtain ⟨A', hA'⟩ : ∃ A', (if c = 1 then some ad else (some ad).map (·.add (1 * 3))) = A' := ⟨_, rfl⟩
              have hC2 : Kd.C k32 w A' xs.length xs := by rw [← hA']; exact hC1
              have hsl : ∀ W, (Instr.slice 22 (.slice (some ad) (xs.length + 1) c) (some (.int .i64 1)) none none).run Tryd.prog W = .ok (.slice A' xs.length (c - 1)) W := fun W => by
                rw [run_slice_l W 22 (some ad) (xs.length + 1) c (by kernel_rfl) .i64 1 (by omega) (by simp at hc; omega), ← hA', show ((Go.sizeOf (Tryd.prog.elem 22)).run Tryd.prog W) = .ok 3 W from by kernel_rfl]
                simp [sliced, Result.andThen]
              clear hA' hC1
              have hn : decide (((x :: xs).length : Int) > 0) = true := decide_eq_true (by simp)
              go_wp2_with (first
              | (go_at_call 17; refine (format_reader_next.calls w.heap.size (B l) i _ _ _ w _ HI HB hT HNX.out).mono ?_; rintro e w2 ⟨rfl, HI2, HB2, HK2⟩;
                 have hcz2 := cellS45_1 HI2.1; have hfz2 := blk_frozen HI2.1 1;
                 have HU2 := builder_move HU HI.1 (by decide) (by decide) (fun k h1 h2 => HK2.2 k h1 h2 (by simp));
                 have HI3 := HI2.set_1 ((i : Int) + 1);
                 have HU3 := builder_move HU2 HI2.1 (by decide) (by decide) (fun k h1 h2 => Below.heap_setCell w2 ⟨w.heap.size, 1, none⟩ (.int .i64 ((i : Int) + 1)) k h2);
                 have HB3 : Below w.heap.size w (w2.setCell ⟨w.heap.size, 1, none⟩ (.int .i64 ((i : Int) + 1))) := HB2.setCell (Nat.le_refl _) _)
              | (go_at_call 19; refine (format_reader_spec.calls k2 w.heap.size (B l) ((i : Int) + 1) fl fz fp fb (wd : Int) pr (vb.toNat : Int) 0 (B l) ((l.length - rest.length : Nat) : Int) w _ HI3 HB3 hT HSP.out).mono ?_; rintro e w4 ⟨rfl, HI4, HB4, HK4⟩;
                 have HU4 := builder_move HU3 HI3.1 (by decide) (by decide) (fun k h1 h2 => HK4.2 k h1 h2 (by simp)); have hs4 := HB4.size;
                 have HB7 : Below w.heap.size w ((w4.alloc (.cells #[.bool fl, .bool fz, .bool fp, .bool fb, .int .i64 (wd : Int), .int .i64 pr, .int .u8 (vb.toNat : Int)] 54)).alloc (.cells #[.int .i64 0, .int .i64 0, .string ⟨#[]⟩] 32)) := (HB4.alloc hs4 _).alloc (by simp; omega) _;
                 have hq0 := (HB7.cell (p := ad) hlt0).trans hcw0; have hq1 := (HB7.cell (p := ⟨ad.block, ad.off + 1, none⟩) hlt1).trans hcw1; have hq2 := (HB7.cell (p := ⟨ad.block, ad.off + 2, none⟩) hlt2).trans hcw2))
              go_region
              have hone' : format_spec_one.f k3 fl fz fp fb (wd : Int) pr (vb.toNat : Int) x.f0 x.f1 x.f2 = some (B o) := by
                have h := HON.out
                rw [show B (cl x).2.2 = x.f2 from B_eta _] at h
                exact h
              by_cases hbig : 4000 < (out ++ o).length
              · have hbb : decide ((out.length : Int) + (o.length : Int) > 4000) = true := decide_eq_true (by rw [List.length_append] at hbig; omega)
                go_wp2_with (first
                | (go_at_call 21; refine (format_spec_one.calls k3 fl fz fp fb (wd : Int) pr (vb.toNat : Int) x.f0 x.f1 x.f2 (B o) _ (by first | exact hT.below (((HB4.alloc hs4 _).alloc (by simp; omega) _).drew) | exact hT.below ((HB4.alloc hs4 _).alloc (by simp; omega) _) | exact hT.below (((HB4.alloc hs4 _).alloc (by simp; omega) _).drewN _)) hone').mono ?_; rintro e w6 ⟨rfl, HB6⟩)
                | (go_at_call 20; refine (builder_writeString w.heap.size (w.heap.size + 1) (Lib.byteCells out) (B o) _ (builder_move ((HU4.alloc _).alloc _) ((HI4.alloc _).alloc _).1 (by decide) (by decide) (fun k h1 _ => HB6.block k h1)) (by simp [Lib.byteCells, B_size]; omega) (by have := HB6.size; simp at this; omega)).mono ?_; rintro e w8 ⟨rfl, HU8, HB8, HO8⟩)
                | (go_at_call 22; refine (builder_len _ _ _ _ (.inr HU8)).mono ?_; rintro e w9 ⟨rfl, rfl⟩; rw [show (Lib.byteCells out ++ Lib.strCells (B o)).length = (out ++ o).length by simp [Lib.byteCells, Lib.strCells, B]]))
                go_ret2
                refine ⟨?_, ?_⟩
                · rw [← HEQ2.out, if_pos hbig]
                  rfl
                · exact (((HB4.alloc hs4 _).alloc (by simp; omega) _).drew |>.trans (HB6.mono (by simp; omega))).trans HB8
              · have hbb : decide ((out.length : Int) + (o.length : Int) > 4000) = false := decide_eq_false (by rw [List.length_append] at hbig; omega)
                go_wp2_with (first
                | (go_at_call 21; refine (format_spec_one.calls k3 fl fz fp fb (wd : Int) pr (vb.toNat : Int) x.f0 x.f1 x.f2 (B o) _ (by first | exact hT.below (((HB4.alloc hs4 _).alloc (by simp; omega) _).drew) | exact hT.below ((HB4.alloc hs4 _).alloc (by simp; omega) _) | exact hT.below (((HB4.alloc hs4 _).alloc (by simp; omega) _).drewN _)) hone').mono ?_; rintro e w6 ⟨rfl, HB6⟩)
                | (go_at_call 20; refine (builder_writeString w.heap.size (w.heap.size + 1) (Lib.byteCells out) (B o) _ (builder_move ((HU4.alloc _).alloc _) ((HI4.alloc _).alloc _).1 (by decide) (by decide) (fun k h1 _ => HB6.block k h1)) (by simp [Lib.byteCells, B_size]; omega) (by have := HB6.size; simp at this; omega)).mono ?_; rintro e w8 ⟨rfl, HU8, HB8, HO8⟩)
                | (go_at_call 22; refine (builder_len _ _ _ _ (.inr HU8)).mono ?_; rintro e w9 ⟨rfl, rfl⟩; rw [show (Lib.byteCells out ++ Lib.strCells (B o)).length = (out ++ o).length by simp [Lib.byteCells, Lib.strCells, B]]))
                obtain ⟨cs7, hb7⟩ := builder_at (builder_move ((HU4.alloc (.cells #[.bool fl, .bool fz, .bool fp, .bool fb, .int .i64 (wd : Int), .int .i64 pr, .int .u8 (vb.toNat : Int)] 54)).alloc (.cells #[.int .i64 x.f0, .int .i64 x.f1, .string x.f2] 32)) ((HI4.alloc _).alloc _).1 (by decide) (by decide) (fun k h1 _ => HB6.block k h1))
                have HP' : PInv l (l1.map cl) (l.length - rest.length) xs (out ++ o) := by
                  refine ⟨by omega, by omega, ?_, fun y hy => HP.ok y (List.mem_cons_of_mem _ hy)⟩
                  have h := HEQ2.out
                  rw [if_neg hbig] at h
                  rw [HDP.out]
                  exact h
                go_roundg (gk - 1)
                case measure => omega
                case rel =>
                  rw [HSC.out, show Lib.byteCells out ++ Lib.byteCells o = Lib.byteCells (out ++ o) by simp [Lib.byteCells]] at HU8
                  exact ⟨_, xs, A', c - 1, out ++ o, rfl, by omega, HP', state_move (((HI4.alloc _).alloc _).drew.below HB6) HO8 hb7, .inr HU8, (((HB4.alloc hs4 _).alloc (by simp; omega) _).drew |>.trans (HB6.mono (by simp; omega))).trans HB8, hC2, by simp at hc; omega⟩
        · have herb : (er != 0) = true := by simpa using her
          go_wp2_with (first
          | (go_at_call 17; refine (format_reader_next.calls w.heap.size (B l) i _ _ _ w _ HI HB hT HNX.out).mono ?_; rintro e w2 ⟨rfl, HI2, HB2, HK2⟩;
             have hcz2 := cellS45_1 HI2.1; have hfz2 := blk_frozen HI2.1 1;
             have HU2 := builder_move HU HI.1 (by decide) (by decide) (fun k h1 h2 => HK2.2 k h1 h2 (by simp));
             have HI3 := HI2.set_1 ((i : Int) + 1);
             have HU3 := builder_move HU2 HI2.1 (by decide) (by decide) (fun k h1 h2 => Below.heap_setCell w2 ⟨w.heap.size, 1, none⟩ (.int .i64 ((i : Int) + 1)) k h2);
             have HB3 : Below w.heap.size w (w2.setCell ⟨w.heap.size, 1, none⟩ (.int .i64 ((i : Int) + 1))) := HB2.setCell (Nat.le_refl _) _)
          | (go_at_call 19; refine (format_reader_spec.calls k2 w.heap.size (B l) ((i : Int) + 1) fl fz fp fb (wd : Int) pr (vb.toNat : Int) er (B l) ((l.length - rest.length : Nat) : Int) w _ HI3 HB3 hT HSP.out).mono ?_; rintro e w4 ⟨rfl, HI4, HB4, HK4⟩;
             have HU4 := builder_move HU3 HI3.1 (by decide) (by decide) (fun k h1 h2 => HK4.2 k h1 h2 (by simp)); have hs4 := HB4.size))
          go_ret2
          refine ⟨?_, ?_⟩
          · rw [← HEQ.out, if_pos her]
            rfl
          · repeat first | exact HB4 | refine Below.setCell ?_ hs4 _ | refine Below.alloc ?_ hs4 _
      · have h37b : ((c0.toNat : Int) != 37) = true := by simp; omega
        go_wp2_with (first
          | (go_at_call 17; refine (format_reader_next.calls w.heap.size (B l) i _ _ _ w _ HI HB hT HNX.out).mono ?_; rintro e w2 ⟨rfl, HI2, HB2, HK2⟩;
             have hcz2 := cellS45_1 HI2.1; have hfz2 := blk_frozen HI2.1 1;
             have HU2 := builder_move HU HI.1 (by decide) (by decide) (fun k h1 h2 => HK2.2 k h1 h2 (by simp));
             have HI3 := HI2.set_1 ((i : Int) + 1);
             have HU3 := builder_move HU2 HI2.1 (by decide) (by decide) (fun k h1 h2 => Below.heap_setCell w2 ⟨w.heap.size, 1, none⟩ (.int .i64 ((i : Int) + 1)) k h2);
             have HB3 : Below w.heap.size w (w2.setCell ⟨w.heap.size, 1, none⟩ (.int .i64 ((i : Int) + 1))) := HB2.setCell (Nat.le_refl _) _)
          | (go_at_call 18; refine (builder_writeByte w.heap.size (w.heap.size + 1) (Lib.byteCells out) (c0.toNat : Int) _ HU3 (by simp [Lib.byteCells]; have := HP.out_le; have := HP.le; omega) (HB3.size)).mono ?_; rintro e w4 ⟨rfl, HU4, HB4, HO4⟩))
        obtain ⟨cs3, hb3⟩ := builder_at HU3
        have HP' : PInv l (l1.map cl) (i + 1) args (out ++ [c0]) := by
          refine ⟨by omega, by rw [List.length_append, List.length_singleton]; have := HP.out_le; omega, ?_, HP.ok⟩
          rw [← HP.eq, HDR.out, HDR'.out, printS_cons _ _ _ _ h37]
        go_roundg (gk - 1)
        case measure => omega
        case rel =>
          rw [byteCells_snoc] at HU4
          exact ⟨i + 1, args, A, c, out ++ [c0], rfl, by omega, HP', state_move HI3 HO4 hb3, .inr HU4, HB3.trans HB4, HC, hc⟩
    · have hge : decide (i < (B l).size) = false := by rw [B_size]; exact decide_eq_false hi
      have HE : PInv l (l1.map cl) i args out := HP
      have hnil : l.drop i = [] := List.drop_eq_nil_of_le (by omega)
      have heq := HP.eq
      rw [hnil, printS_nil] at heq
      have hol := HP.out_le
      have hil := HP.le
      have HQ := Lib.hid heq
      clear heq hnil
      have hcl : (Lib.byteCells out).length = out.length := by simp [Lib.byteCells]
      by_cases hbig : 4000 < out.length
      · have hb1 : decide ((out.length : Int) > 4000) = true := decide_eq_true (by omega)
        go_wp2_with (first
          | (go_at_call 22; refine (builder_len _ _ _ _ HU).mono ?_; rintro e w2 ⟨rfl, rfl⟩; rw [hcl]))
        go_ret2
        refine ⟨?_, HB⟩
        rw [← HQ.out, if_pos hbig]
        rfl
      · have hb1 : decide ((out.length : Int) > 4000) = false := decide_eq_false (by omega)
        go_wp2_with (first
          | (go_at_call 22; refine (builder_len _ _ _ _ HU).mono ?_; rintro e w2 ⟨rfl, rfl⟩; rw [hcl])
          | (go_at_call 23; refine (builder_string w.heap.size (w.heap.size + 1) out _ HU hsz).mono ?_; rintro e w2 ⟨rfl, hx2⟩))
        go_ret2
        refine ⟨?_, HB.trans hx2⟩
        rw [← HQ.out, if_neg hbig]
        rfl
end Go.Proofs.YtmobbclpfbkkkaaDoor.Pr
