/-
  The walk of kistlaw06's awake.
-/
import Derived.Test.YtkkjhkjgdpodeaaSymC
import Derived.Test.YtkkjhkjgdpodeaaEqBits
namespace Go.Proofs.Ytkkjhkjgdpodeaa
open Go.RowKit
set_option linter.unusedVariables false
set_option linter.unusedSimpArgs false

theorem aws_front : K.frontR (ByteArray.mk #[98, 97, 110, 97, 110, 97]).data.toList (ByteArray.mk #[97, 98, 110]).data.toList = ([1, 1, 2, 1, 1, 1], 0) := by decide +kernel
theorem aws_show : K.symR (ByteArray.mk #[97]).data.toList = ([2, 0, 64, 0], 32, 0) := by decide +kernel
theorem aws_of : K.uses (ByteArray.mk #[98, 97, 110, 97, 110, 97]).data.toList = [97, 98, 110] := by decide +kernel

theorem awakeS (w : World) : Calls Try.prog 12 #[] w fun e w' => e = .returned (.bool true) ∧ Kept [] w w' := by
  go_enter Try.func12, Try.ntmps12
  go_wp2_with fail
  refine (sfront_any ⟨#[98, 97, 110, 97, 110, 97]⟩ ⟨#[97, 98, 110]⟩ _ (by decide) (by decide)).mono ?_
  rintro e w1 hp
  rw [aws_front] at hp
  obtain ⟨a, c, rfl, hrow, hk1, hf1⟩ := hp
  have HK1 := Lib.hid hk1
  have HROW := Lib.hid hrow
  clear hk1 hrow hf1
  go_wp2_with fail
  refine (sshow_any ⟨#[97]⟩ _ (by decide)).mono ?_
  rintro e w2 ⟨rfl, hk2⟩
  rw [aws_show]
  have HROW2 := Lib.hid (HROW.out.kept hk2 (by simp))
  have HK2 := Lib.hid (HK1.out.new hk2 (by simp [Fresh]))
  clear hk2
  unfold bitsV
  go_wp2_with fail
  refine (sof_any ⟨#[98, 97, 110, 97, 110, 97]⟩ _ (by decide)).mono ?_
  rintro e w3 ⟨rfl, hk3⟩
  rw [aws_of]
  have hh := hk3.heap (heap_alloc_new _ _) (by simp)
  have HH := Lib.hid hh
  have HROW3 := Lib.hid ((HROW2.out.alloc (.cells #[.string ⟨#[2, 0, 64, 0]⟩, .int .i64 32] 34)).kept hk3 (by simp))
  have HK3 := Lib.hid ((HK2.out.alloc _).new hk3 (by simp [Fresh]))
  clear hk3 hh
  go_wp2_with fail
  have hk4 : Kept [] w3 (w3.alloc (.cells #[.int .i64 1, .int .i64 1, .int .i64 2, .int .i64 1, .int .i64 1, .int .i64 1] 3)) := (Kept.refl _ _).alloc _
  have hs4 : Sees (w3.alloc (.cells #[.int .i64 1, .int .i64 1, .int .i64 2, .int .i64 1, .int .i64 1, .int .i64 1] 3)) 1 (some ⟨w3.heap.size, 0, none⟩) 6 (intVals [1, 1, 2, 1, 1, 1]) := Sees.lit (news := intVals [1, 1, 2, 1, 1, 1]) rfl
  have hs3 : Sees w3 1 a 6 (intVals [1, 1, 2, 1, 1, 1]) := by
    obtain ⟨a', c', hv, -, -, hsee, -⟩ := HROW3.out.sees
    injection hv with h1 h2 h3
    subst h1
    exact hsee
  refine (ints_ok a _ c 6 [1, 1, 2, 1, 1, 1] [1, 1, 2, 1, 1, 1] _ (hs3.kept0 hk4) hs4 (by decide)).mono ?_
  rintro e w5 ⟨rfl, hk5⟩
  have hh5 := (hk4.new hk5 (by simp [Fresh])).heap HH.out (by simp)
  have c0 : w5.cell? ⟨w2.heap.size, 0, none⟩ = _ := cell_of_row w5 w2.heap.size 0 _ _ _ hh5
  have c1 : w5.cell? ⟨w2.heap.size, 1, none⟩ = _ := cell_of_row w5 w2.heap.size 1 _ _ _ hh5
  simp at c0 c1
  have heq := fun W => eqBits_same ⟨#[2, 0, 64, 0]⟩ 32 W
  have HK5 := Lib.hid ((HK3.out.new hk4 (by simp [Fresh])).new hk5 (by simp [Fresh]))
  clear hk4 hs4 hs3 hk5 hh5
  go_wp2_with fail
  go_ret
  exact ⟨rfl, HK5.out⟩
end Go.Proofs.Ytkkjhkjgdpodeaa
