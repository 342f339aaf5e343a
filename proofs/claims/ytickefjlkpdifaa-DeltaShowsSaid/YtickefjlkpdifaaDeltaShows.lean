/-
  DeltaShows: the walk.
-/
import Derived.Test.YtickefjlkpdifaaAwakeD
import Derived.Test.YtickefjlkpdifaaDShowR
namespace Go.Proofs.Ytickefjlkpdifaa
open Go.RowKit
set_option linter.unusedVariables false
set_option linter.unusedSimpArgs false

theorem deltaShows_walk (a : Option Addr) (len cap : Nat) (xs : List Int) (w : World)
    (h : Sees w 1 a len (xs.map (Value.int .i64)) ∧ xs.length = len ∧ len ≤ cap ∧ cap ≤ maxLen ∧ len ≤ 140737488351232 ∧ ∀ x ∈ xs, -9223372036854775808 ≤ x ∧ x ≤ 9223372036854775807) :
    Calls Try.prog 10 #[.slice a len cap] w fun e w' => e = .returned (.bool true) ∧ Kept [] w w' := by
  obtain ⟨h, rfl, -, -, hlen, -⟩ := h
  have HS := Lib.hid h
  clear h
  go_enter Try.func10, Try.ntmps10
  go_wp2_with fail
  refine (dshow_any a cap xs _ HS.out hlen).mono ?_
  rintro e w1 ⟨rfl, hk1⟩
  have HK1 := Lib.hid hk1
  clear hk1
  unfold bitsV
  go_wp2_with fail
  refine (rshow_any a cap xs _ (HS.out.kept0 (HK1.out.alloc _)) hlen).mono ?_
  rintro e w2 ⟨rfl, hk2⟩
  unfold bitsV
  generalize K.showR xs = pr at hk2 ⊢
  obtain ⟨T, N, E⟩ := pr
  have hh := hk2.heap (heap_alloc_new _ _) (by simp)
  have hlt : w1.heap.size < w2.heap.size := by have := hk2.size; simp at this; omega
  have c0 : w2.cell? ⟨w1.heap.size, 0, none⟩ = _ := cell_of_row w2 w1.heap.size 0 _ _ _ hh
  have c1 : w2.cell? ⟨w1.heap.size, 1, none⟩ = _ := cell_of_row w2 w1.heap.size 1 _ _ _ hh
  simp at c0 c1
  have heq := fun W => eqBits_same ⟨T.toArray⟩ N W
  have HK2 := Lib.hid hk2
  clear hh hk2
  go_wp2_with ((go_at_call 36; refine (awakeD _).mono ?_; rintro e w' ⟨rfl, hk⟩))
  go_ret
  exact ⟨rfl, (((HK1.out.alloc _).new HK2.out (by simp [Fresh])).alloc _).new ‹_› (by simp [Fresh])⟩
end Go.Proofs.Ytickefjlkpdifaa
