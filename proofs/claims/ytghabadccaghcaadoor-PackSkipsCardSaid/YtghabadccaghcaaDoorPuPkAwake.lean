/- scribelaw01.awake: true. -/
import Derived.Test.YtghabadccaghcaaDoorPuPkW
import Derived.Test.YtghabadccaghcaaDoorPr4
import Derived.Test.YtghabadccaghcaaDoorPr10
namespace Go.Proofs.YtghabadccaghcaaDoor.Pr
open Go Go.RowKit Go.Sort Go.Lib Go.Proofs.YtghabadccaghcaaDoorW.PrintWords Go.Proofs.YtghabadccaghcaaDoorW.PrintLast Go.Proofs.YtghabadccaghcaaDoorW.PrintMore

def scribelaw01_awake.f : Option Bool := some true
theorem aw1 : pack_Writer_Int.f (⟨#[]⟩ : ByteArray) (-12) = some ⟨#[105, 45, 49, 50, 59]⟩ := by
  have h : Lib.itoa (-12) = [45, 49, 50] := by simp [Lib.itoa, Lib.decDigits]
  unfold pack_Writer_Int.f
  rw [h]
  rfl
theorem aw2 : pack_Writer_Text.f (⟨#[105, 45, 49, 50, 59]⟩ : ByteArray) (⟨#[97, 98]⟩ : ByteArray) = some ⟨#[105, 45, 49, 50, 59, 50, 58, 97, 98]⟩ := by
  have h : Lib.itoa (((⟨#[97, 98]⟩ : ByteArray).size : Nat) : Int) = [50] := by
    show Lib.itoa 2 = [50]
    simp [Lib.itoa, Lib.decDigits]
  unfold pack_Writer_Text.f
  rw [h]
  rfl
theorem aw3 : pack_Writer_Open.f (⟨#[105, 45, 49, 50, 59, 50, 58, 97, 98]⟩ : ByteArray) = some ⟨#[105, 45, 49, 50, 59, 50, 58, 97, 98, 40]⟩ := rfl
theorem aw4 : pack_Writer_Close.f (⟨#[105, 45, 49, 50, 59, 50, 58, 97, 98, 40]⟩ : ByteArray) = some ⟨#[105, 45, 49, 50, 59, 50, 58, 97, 98, 40, 41]⟩ := rfl
theorem aw5 : pack_Read.f (⟨#[105, 48, 49, 59]⟩ : ByteArray) = some (⟨#[105, 48, 49, 59]⟩, 0, 0, 0) := rfl
theorem aw6 : pack_Reader_Int.f 9 (⟨#[105, 48, 49, 59]⟩ : ByteArray) 0 0 0 = some (0, ⟨#[105, 48, 49, 59]⟩, 2, 0, 3) := by kernel_rfl
theorem aw7 : pack_Writer_Bytes.f (⟨#[105, 45, 49, 50, 59, 50, 58, 97, 98, 40, 41]⟩ : ByteArray) = some (⟨#[105, 45, 49, 50, 59, 50, 58, 97, 98, 40, 41]⟩, ⟨#[105, 45, 49, 50, 59, 50, 58, 97, 98, 40, 41]⟩) := rfl
theorem aw8 : pack_Reader_Err.f (⟨#[105, 48, 49, 59]⟩ : ByteArray) 2 0 3 = some (3, ⟨#[105, 48, 49, 59]⟩, 2, 0, 3) := rfl
theorem aw9 : pack_Reader_At.f (⟨#[105, 48, 49, 59]⟩ : ByteArray) 2 0 3 = some (2, ⟨#[105, 48, 49, 59]⟩, 2, 0, 3) := rfl

set_option maxHeartbeats 4000000 in
set_option maxRecDepth 100000 in
theorem scribelaw01_awake.calls (r : Bool) (w : World) (hT : TB w) (h : scribelaw01_awake.f = some r) :
    Calls Tryd.prog 13 #[] w fun e w' => e = .returned (.bool r) ∧ Below w.heap.size w w' := by
  cases h
  have HW0 : IsS25 w (w.alloc (.cells #[.slice none 0 0] 25)) w.heap.size ⟨#[]⟩ := IsS25.born (by simpa using heap_alloc_new w (.cells #[.slice none 0 0] 25)) (Nat.le_refl _)
  have HB0 : Below w.heap.size w (w.alloc (.cells #[.slice none 0 0] 25)) := below_alloc (Below.refl _ _) _
  have hu := Tryd.underlying25
  have hu2 := Tryd.underlying62
  go_enter Tryd.func13, Tryd.ntmps13
  go_wp2_with (first
  | (go_at_call 31; refine (pack_Writer_Int.calls _ _ _ _ w _ HW0 HB0 hT aw1).mono ?_; rintro e w1 ⟨rfl, HW1, HB1, _⟩)
  | (go_at_call 32; refine (pack_Writer_Text.calls _ _ _ _ w _ HW1 HB1 hT aw2).mono ?_; rintro e w2 ⟨rfl, HW2, HB2, _⟩)
  | (go_at_call 33; refine (pack_Writer_Open.calls _ _ _ w _ HW2 HB2 hT aw3).mono ?_; rintro e w3 ⟨rfl, HW3, HB3, _⟩)
  | (go_at_call 22; refine (pack_Writer_Close.calls _ _ _ w _ HW3 HB3 hT aw4).mono ?_; rintro e w4 ⟨rfl, HW4, HB4, _⟩)
  | (go_at_call 16; refine (pack_Read.calls _ _ _ _ _ w4 w4 (Below.refl _ _) (hT.below HB4) aw5).mono ?_; rintro e w5 ⟨g, rfl, HR5, HB5, _⟩)
  | (go_at_call 17; refine (pack_Reader_Int.calls 9 _ _ _ _ _ _ _ _ _ _ w4 w5 HR5 HB5 (hT.below HB4) aw6).mono ?_; rintro e w6 ⟨rfl, HR6, HB6, _⟩;
     have HW6 := HW4.below HB6; have HB7 := HB4.trans (HB6.mono HB4.size); have HT7 := hT.below HB4)
  | (go_at_call 14; refine (pack_Writer_Bytes.calls _ _ _ _ w _ HW6 HB7 hT aw7).mono ?_; rintro e w8 ⟨rfl, HW8, HB8, HK8⟩;
     have HR8 : IsS62 w w8 g (⟨#[105, 48, 49, 59]⟩ : ByteArray) 2 0 3 := ⟨HK8.blk HR6.1 (by have := HR6.2; have := HW4.lt; omega) (by simp), by have := HR6.2; have := HB4.size; omega⟩)
  | (go_at_call 34; refine (pack_Reader_Err.calls _ _ _ _ _ _ _ _ _ _ w _ HR8 HB8 hT aw8).mono ?_; rintro e w9 ⟨rfl, HR9, HB9, _⟩)
  | (go_at_call 26; refine (pack_Reader_At.calls _ _ _ _ _ _ _ _ _ _ w _ HR9 HB9 hT aw9).mono ?_; rintro e w10 ⟨rfl, HR10, HB10, _⟩))
  go_ret
  exact ⟨rfl, HB10⟩
end Go.Proofs.YtghabadccaghcaaDoor.Pr
