/-
  The walk of kistlaw09's awake.
-/
import Derived.Test.YtodjfgdolegfpaaPreD
import Derived.Test.YtodjfgdolegfpaaPreG
import Derived.Test.YtodjfgdolegfpaaEqBits
namespace Go.Proofs.Ytodjfgdolegfpaa
open Go.RowKit
set_option linter.unusedVariables false
set_option linter.unusedSimpArgs false

theorem awp_codes : K.codesR [2, 1, 3, 3] = ([2, 0, 6, 7], 0) := by decide +kernel
theorem awp_enc : K.encR [2, 1, 3, 3] [0, 1, 2] = ([152], 6, 0) := by decide +kernel
theorem awp_dec : K.decR [2, 1, 3, 3] (K.bitsOf (ByteArray.mk #[152]).data.toList) 3 = (2, 6, 0) := by decide +kernel

set_option maxHeartbeats 1000000 in
theorem awakeP (w : World) : Calls Try.prog 13 #[] w fun e w' => e = .returned (.bool true) ∧ Kept [] w w' := by
  go_enter Try.func13, Try.ntmps13
  go_wp2_with fail
  have hs0 : Sees (w.alloc (.cells #[.int .i64 2, .int .i64 1, .int .i64 3, .int .i64 3] 3)) 1 (some ⟨w.heap.size, 0, none⟩) 4 (intVals [2, 1, 3, 3]) := Sees.lit (news := intVals [2, 1, 3, 3]) rfl
  have hk0 : Kept [] w (w.alloc (.cells #[.int .i64 2, .int .i64 1, .int .i64 3, .int .i64 3] 3)) := (Kept.refl _ _).alloc _
  generalize w.alloc (.cells #[.int .i64 2, .int .i64 1, .int .i64 3, .int .i64 3] 3) = W0 at hs0 hk0 ⊢
  refine (pcodes_any (some ⟨w.heap.size, 0, none⟩) 4 [2, 1, 3, 3] W0 hs0 (by decide)).mono ?_
  rintro e w1 hp
  rw [awp_codes] at hp
  obtain ⟨a1, c1, rfl, hrow1, hk1, -⟩ := hp
  have HK1 := Lib.hid (hk0.new hk1 (by simp [Fresh]))
  have HROW1 := Lib.hid hrow1
  clear hs0 hk0 hk1 hrow1
  go_wp2_with fail
  have hsA : Sees (w1.alloc (.cells #[.int .i64 2, .int .i64 1, .int .i64 3, .int .i64 3] 3)) 1 (some ⟨w1.heap.size, 0, none⟩) 4 (intVals [2, 1, 3, 3]) := Sees.lit (news := intVals [2, 1, 3, 3]) rfl
  have hkA : Kept [] w1 (w1.alloc (.cells #[.int .i64 2, .int .i64 1, .int .i64 3, .int .i64 3] 3)) := (Kept.refl _ _).alloc _
  have hzA : (w1.alloc (.cells #[.int .i64 2, .int .i64 1, .int .i64 3, .int .i64 3] 3)).heap.size = w1.heap.size + 1 := by simp
  generalize w1.alloc (.cells #[.int .i64 2, .int .i64 1, .int .i64 3, .int .i64 3] 3) = WA at hsA hkA hzA ⊢
  rw [← hzA]
  have hsB : Sees (WA.alloc (.cells #[.int .i64 0, .int .i64 1, .int .i64 2] 3)) 1 (some ⟨WA.heap.size, 0, none⟩) 3 (intVals [0, 1, 2]) := Sees.lit (news := intVals [0, 1, 2]) rfl
  have hkB : Kept [] WA (WA.alloc (.cells #[.int .i64 0, .int .i64 1, .int .i64 2] 3)) := (Kept.refl _ _).alloc _
  generalize WA.alloc (.cells #[.int .i64 0, .int .i64 1, .int .i64 2] 3) = WB at hsB hkB ⊢
  refine (pencode_any (some ⟨w1.heap.size, 0, none⟩) (some ⟨WA.heap.size, 0, none⟩) 4 3 [2, 1, 3, 3] [0, 1, 2] WB (hsA.kept0 hkB) (by decide) hsB (by decide)).mono ?_
  rintro e w2 ⟨rfl, hk2⟩
  rw [awp_enc]
  have HK2 := Lib.hid (((HK1.out.new hkA (by simp [Fresh])).new hkB (by simp [Fresh])).new hk2 (by simp [Fresh]))
  have HROW2 := Lib.hid (((HROW1.out.kept hkA (by simp)).kept hkB (by simp)).kept hk2 (by simp))
  clear hsA hkA hzA hsB hkB hk2
  unfold bitsV
  go_wp2_with fail
  have hX : (w2.alloc (.cells #[.string ⟨[152].toArray⟩, .int .i64 6] 32)).heap[w2.heap.size]? = some (.cells #[.string ⟨[152].toArray⟩, .int .i64 6] 32 (0, 0)) := heap_alloc_new _ _
  have hkX : Kept [] w2 (w2.alloc (.cells #[.string ⟨[152].toArray⟩, .int .i64 6] 32)) := (Kept.refl _ _).alloc _
  have hzX : (w2.alloc (.cells #[.string ⟨[152].toArray⟩, .int .i64 6] 32)).heap.size = w2.heap.size + 1 := by simp
  generalize w2.alloc (.cells #[.string ⟨[152].toArray⟩, .int .i64 6] 32) = WX at hX hkX hzX ⊢
  rw [← hzX]
  have hsC : Sees (WX.alloc (.cells #[.int .i64 2, .int .i64 1, .int .i64 3, .int .i64 3] 3)) 1 (some ⟨WX.heap.size, 0, none⟩) 4 (intVals [2, 1, 3, 3]) := Sees.lit (news := intVals [2, 1, 3, 3]) rfl
  have hkC : Kept [] WX (WX.alloc (.cells #[.int .i64 2, .int .i64 1, .int .i64 3, .int .i64 3] 3)) := (Kept.refl _ _).alloc _
  generalize WX.alloc (.cells #[.int .i64 2, .int .i64 1, .int .i64 3, .int .i64 3] 3) = WC at hsC hkC ⊢
  refine (decode_any (some ⟨WX.heap.size, 0, none⟩) 4 [2, 1, 3, 3] ⟨#[152]⟩ 3 WC hsC (by decide) (by decide)).mono ?_
  rintro e w3 ⟨rfl, hk3⟩
  rw [awp_dec]
  have hkk := (hkX.new hkC (by simp [Fresh])).new hk3 (by simp [Fresh])
  have HH := Lib.hid ((hkC.new hk3 (by simp [Fresh])).heap hX (by simp))
  have HK3 := Lib.hid (HK2.out.new hkk (by simp [Fresh]))
  have HROW3 := Lib.hid (HROW2.out.kept hkk (by simp))
  clear hX hkX hzX hsC hkC hk3 hkk
  go_wp2_with fail
  have hk4 : Kept [] w3 (w3.alloc (.cells #[.int .i64 2, .int .i64 0, .int .i64 6, .int .i64 7] 3)) := (Kept.refl _ _).alloc _
  have hs4 : Sees (w3.alloc (.cells #[.int .i64 2, .int .i64 0, .int .i64 6, .int .i64 7] 3)) 1 (some ⟨w3.heap.size, 0, none⟩) 4 (intVals [2, 0, 6, 7]) := Sees.lit (news := intVals [2, 0, 6, 7]) rfl
  have hs3 : Sees w3 1 a1 4 (intVals [2, 0, 6, 7]) := HROW3.out.seeA
  refine (ints_ok a1 _ c1 4 [2, 0, 6, 7] [2, 0, 6, 7] _ (hs3.kept0 hk4) hs4 (by decide)).mono ?_
  rintro e w5 ⟨rfl, hk5⟩
  have hh5 := (hk4.new hk5 (by simp [Fresh])).heap HH.out (by simp)
  have c0 : w5.cell? ⟨w2.heap.size, 0, none⟩ = _ := cell_of_row w5 w2.heap.size 0 _ _ _ hh5
  have c2 : w5.cell? ⟨w2.heap.size, 1, none⟩ = _ := cell_of_row w5 w2.heap.size 1 _ _ _ hh5
  simp at c0 c2
  have heq := fun W => eqBits_same ⟨#[152]⟩ 6 W
  have HK5 := Lib.hid ((HK3.out.new hk4 (by simp [Fresh])).new hk5 (by simp [Fresh]))
  clear hk4 hs4 hs3 hk5 hh5
  go_wp2_with fail
  go_ret
  exact ⟨rfl, HK5.out⟩
end Go.Proofs.Ytodjfgdolegfpaa
