/-
  The walk of kistlaw10's awake.
-/
import Derived.Test.YtickefjlkpdifaaDShow
import Derived.Test.YtickefjlkpdifaaDTake
import Derived.Test.YtickefjlkpdifaaEqBits
namespace Go.Proofs.Ytickefjlkpdifaa
open Go.RowKit
set_option linter.unusedVariables false
set_option linter.unusedSimpArgs false

theorem aw_show : K.showR [3, 4, 4, 2] = ([26, 60], 15, 0) := by decide +kernel
theorem aw_take : K.lensR (K.bitsOf (ByteArray.mk #[26, 60]).data.toList) 0 4 = ([3, 4, 4, 2], 15, 0) := by decide +kernel

theorem awakeD (w : World) : Calls Try.prog 36 #[] w fun e w' => e = .returned (.bool true) ∧ Kept [] w w' := by
  go_enter Try.func36, Try.ntmps36
  go_wp2_with fail
  have hs0 : Sees (w.alloc (.cells #[.int .i64 3, .int .i64 4, .int .i64 4, .int .i64 2] 3)) 1 (some ⟨w.heap.size, 0, none⟩) 4 (intVals [3, 4, 4, 2]) := Sees.lit (news := intVals [3, 4, 4, 2]) rfl
  have hk0 : Kept [] w (w.alloc (.cells #[.int .i64 3, .int .i64 4, .int .i64 4, .int .i64 2] 3)) := (Kept.refl _ _).alloc _
  generalize w.alloc (.cells #[.int .i64 3, .int .i64 4, .int .i64 4, .int .i64 2] 3) = W0 at hs0 hk0 ⊢
  refine (dshow_any (some ⟨w.heap.size, 0, none⟩) 4 [3, 4, 4, 2] W0 hs0 (by decide)).mono ?_
  rintro e w1 ⟨rfl, hk1⟩
  rw [aw_show]
  have HK1 := Lib.hid (hk0.new hk1 (by simp [Fresh]))
  clear hk0 hk1 hs0
  unfold bitsV
  go_wp2_with fail
  refine (dtake_any ⟨#[26, 60]⟩ 0 4 _ (by decide)).mono ?_
  rintro e w2 hp
  rw [aw_take] at hp
  obtain ⟨a, c, rfl, hrow, hk2, hf⟩ := hp
  have hh := hk2.heap (heap_alloc_new _ _) (by simp)
  have c0 : w2.cell? ⟨w1.heap.size, 0, none⟩ = _ := cell_of_row w2 w1.heap.size 0 _ _ _ hh
  have c1 : w2.cell? ⟨w1.heap.size, 1, none⟩ = _ := cell_of_row w2 w1.heap.size 1 _ _ _ hh
  simp at c0 c1
  have heq := fun W => eqBits_same ⟨#[26, 60]⟩ 15 W
  have HK2 := Lib.hid ((HK1.out.alloc _).new hk2 (by simp [Fresh]))
  clear hk2 hh hf
  go_wp2_with fail
  have hk3 : Kept [] w2 (w2.alloc (.cells #[.int .i64 3, .int .i64 4, .int .i64 4, .int .i64 2] 3)) := (Kept.refl _ _).alloc _
  have hs3 : Sees (w2.alloc (.cells #[.int .i64 3, .int .i64 4, .int .i64 4, .int .i64 2] 3)) 1 (some ⟨w2.heap.size, 0, none⟩) 4 (intVals [3, 4, 4, 2]) := Sees.lit (news := intVals [3, 4, 4, 2]) rfl
  have hs2 : Sees w2 1 a 4 (intVals [3, 4, 4, 2]) := by
    obtain ⟨a', c', hv, -, -, hsee, -⟩ := hrow.sees
    injection hv with h1 h2 h3
    subst h1
    exact hsee
  refine (ints_ok a _ c 4 [3, 4, 4, 2] [3, 4, 4, 2] _ (hs2.kept0 hk3) hs3 (by decide)).mono ?_
  rintro e w3 ⟨rfl, hk4⟩
  have HK4 := Lib.hid ((HK2.out.new hk3 (by simp [Fresh])).new hk4 (by simp [Fresh]))
  clear hk3 hk4 hs2 hs3 hrow
  go_wp2_with fail
  go_ret
  exact ⟨rfl, HK4.out⟩
end Go.Proofs.Ytickefjlkpdifaa
