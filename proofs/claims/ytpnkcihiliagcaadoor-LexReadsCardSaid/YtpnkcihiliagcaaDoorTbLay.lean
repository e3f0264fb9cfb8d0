/- What the row's list says of the tables of words: each lies as a row of texts. -/
import Derived.Test.YtpnkcihiliagcaaDoorTbL
import Derived.Lib.LaidTab
import Derived.ChangeArms
import Derived.Shelf.Strings.Shaped
namespace Go.Proofs.YtpnkcihiliagcaaDoor
open Go Go.RowKit
/-- A variable that reads as a row of texts holds one. -/
theorem laidS_of_head {P : Program} {W : World} {name : String} {zs : List ByteArray} {rest : List (String × DataW Unit)} {g : Nat} {t e : TypeId}
    (hg : P.globalNamed name = some g) (hty : (P.globals[g]?).map (·.type) = some t) (ht : P.underlying t = some (.slice e)) (he : P.underlying e = some .string) (hce : P.cellsOf e = 1) (h0 : 0 < zs.length) (h1 : zs.length ≤ 1000)
    (h : laidMet P ((name, .slice (zs.map fun z => .lit (.string z.data.toList)) []) :: rest) W) : LaidS W g zs := by
  obtain ⟨ps, ⟨g', t', cs, fuel, p, q, hg', ht', hvar, hd, _, _⟩, _⟩ := h
  obtain rfl := Option.some.inj (hg.symm.trans hg')
  obtain rfl := Option.some.inj (hty.symm.trans ht')
  rcases DataW.trod_slice ht hd with ⟨_, hx⟩ | ⟨a, len, cap, elems, rst, n, _, hcs, hx, _, _, _, hlen, hel, _, _⟩
  · injection hx with hx _
    cases hx
  · injection hx with hx _
    injection hx with hx _
    have hzl : zs.length = len := by
      have := congrArg List.length hx
      simp at this
      omega
    have hc0 : W.cell? ⟨g, 0, none⟩ = some (.slice (some a) len cap) := by
      rw [World.var?_cell hg hvar 0, ← Array.getElem?_toList, hcs]
      rfl
    have hat : ∀ j, j < zs.length → W.cell? (a.add j) = some (.string (zs.getD j ByteArray.empty)) := by
      intro j hj
      have hj2 := hel j (by omega)
      rw [hce] at hj2
      have hex : elems[j]? = some elems[j] := List.getElem?_eq_getElem (by omega)
      rw [hex] at hj2
      obtain ⟨vs, hv, htr⟩ := Option.bind_eq_some_iff.1 hj2
      obtain ⟨s, rfl, hse, _⟩ := DataW.trod_string he htr
      have hs : s = zs.getD j ByteArray.empty := by
        have h2 : (elems.map (·.1))[j]? = some (DataW.lit (.string s.data.toList) : DataW Unit) := by simp [hex, hse]
        rw [← hx] at h2
        simp only [List.getElem?_map, Option.map_eq_some_iff, DataW.lit.injEq, Lit.string.injEq] at h2
        obtain ⟨z, hz, hzz⟩ := h2
        have hzs : z = s := by
          cases z
          cases s
          exact congrArg ByteArray.mk (Array.toList_inj.1 hzz)
        rw [List.getD_eq_getElem?_getD, hz, hzs]
        rfl
      rw [← hs]
      unfold World.cells? at hv
      rw [if_pos (Nat.zero_le _)] at hv
      simp [List.range, List.range.loop] at hv
      cases hw : W.cell? ((a.add j).add 0) with
      | none => rw [hw] at hv; cases hv
      | some v =>
        rw [hw] at hv
        simp at hv
        subst hv
        simpa [Addr.add] using hw
    obtain ⟨b, o, sp⟩ := a
    have hsp : sp = none := by
      have := hat 0 h0
      cases sp with
      | none => rfl
      | some s =>
        simp only [Addr.add, if_pos, World.cell?] at this
        split at this <;> simp at this
    subst hsp
    refine ⟨b, o, cap, by rw [hzl]; exact hc0, h1, h0, fun j hj => ?_⟩
    have := hat j hj
    rw [← this]
    unfold Addr.add
    split
    · rename_i h; subst h; rfl
    · rfl
end Go.Proofs.YtpnkcihiliagcaaDoor
