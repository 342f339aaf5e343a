/-
  BitsSlices: the walk.
-/
import Derived.Test.YtickefjlkpdifaaAwakeA
import Derived.Test.YtickefjlkpdifaaSliceR
import Derived.Test.YtickefjlkpdifaaEqBits
namespace Go.Proofs.Ytickefjlkpdifaa
open Go.RowKit
set_option linter.unusedVariables false
set_option linter.unusedSimpArgs false

theorem bitsSlices_walk (s : ByteArray) (i n : Int) (w : World) (hz : s.size ≤ 140737488351232) (hi : -9223372036854775808 ≤ i ∧ i ≤ 9223372036854775807) (hn : -9223372036854775808 ≤ n ∧ n ≤ 9223372036854775807) :
    Calls Try.prog 7 #[.string s, .int .i64 i, .int .i64 n] w fun e w' => e = .returned (.bool true) ∧ Kept [] w w' := by
  clear hi hn
  by_cases hbig : 1000 < s.size
  · have g1 : decide (1000 < (s.size : Int)) = true := by simp; omega
    go_enter Try.func7, Try.ntmps7
    go_wp2_with ((go_at_call 15; refine (awakeA _).mono ?_; rintro e w' ⟨rfl, hk⟩))
    go_ret
    exact ⟨rfl, by assumption⟩
  · have g1 : decide (1000 < (s.size : Int)) = false := by simp; omega
    go_enter Try.func7, Try.ntmps7
    go_wp2_with fail
    refine (slice_any s i n _ (by omega)).mono ?_
    rintro e w1 ⟨rfl, hk1⟩
    have HK1 := Lib.hid hk1
    clear hk1
    unfold bitsV
    go_wp2_with fail
    refine (refSlice_any s i n _ (by omega)).mono ?_
    rintro e w2 ⟨rfl, hk2⟩
    unfold bitsV
    generalize K.sliceR s.data.toList i n = pr at hk2 ⊢
    obtain ⟨T, N, E⟩ := pr
    have hh := hk2.heap (heap_alloc_new _ _) (by simp)
    have hlt : w1.heap.size < w2.heap.size := by have := hk2.size; simp at this; omega
    have c0 : w2.cell? ⟨w1.heap.size, 0, none⟩ = _ := cell_of_row w2 w1.heap.size 0 _ _ _ hh
    have c1 : w2.cell? ⟨w1.heap.size, 1, none⟩ = _ := cell_of_row w2 w1.heap.size 1 _ _ _ hh
    simp at c0 c1
    have heq := fun W => eqBits_same ⟨T.toArray⟩ N W
    have HK2 := Lib.hid hk2
    clear hh hk2
    go_wp2_with ((go_at_call 15; refine (awakeA _).mono ?_; rintro e w' ⟨rfl, hk⟩))
    go_ret
    exact ⟨rfl, (((HK1.out.alloc _).new HK2.out (by simp [Fresh])).alloc _).new ‹_› (by simp [Fresh])⟩
end Go.Proofs.Ytickefjlkpdifaa
