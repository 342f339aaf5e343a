/-
  SymbolsShows: the walk.
-/
import Derived.Test.YtkkjhkjgdpodeaaAwakeS
import Derived.Test.YtkkjhkjgdpodeaaSymF
namespace Go.Proofs.Ytkkjhkjgdpodeaa
open Go.RowKit
set_option linter.unusedVariables false
set_option linter.unusedSimpArgs false

theorem symbolsShows_walk (s : ByteArray) (w : World) (hs : s.size ≤ 140737488351232) :
    Calls Try.prog 5 #[.string s] w fun e w' => e = .returned (.bool true) ∧ Kept [] w w' := by
  by_cases h : 1000 < s.size
  · have g1 : decide (1000 < (s.size : Int)) = true := by simp; omega
    go_enter Try.func5, Try.ntmps5
    go_wp2_with ((go_at_call 12; refine (awakeS _).mono ?_; rintro e w' ⟨rfl, hk⟩))
    go_ret
    exact ⟨rfl, by assumption⟩
  · have g1 : decide (1000 < (s.size : Int)) = false := by simp; omega
    go_enter Try.func5, Try.ntmps5
    go_wp2_with fail
    refine (sshow_any s _ (by omega)).mono ?_
    rintro e w1 ⟨rfl, hk1⟩
    have HK1 := Lib.hid hk1
    clear hk1
    obtain ⟨T, n, er, hT⟩ : ∃ (T : List UInt8) (n : Int) (er : Nat), K.symR s.data.toList = (T, n, er) := ⟨_, _, _, rfl⟩
    have HT := Lib.hid hT
    rw [hT]
    clear hT
    unfold bitsV
    go_wp2_with fail
    refine (rsymshow_any s _ (by omega)).mono ?_
    rintro e w2 ⟨rfl, hk2⟩
    rw [HT.out]
    unfold bitsV
    have hh := hk2.heap (heap_alloc_new _ _) (by simp)
    have HH := Lib.hid hh
    have HK2 := Lib.hid ((HK1.out.alloc _).new hk2 (by simp [Fresh]))
    have hh3 := ((Kept.refl [] w2).alloc (.cells #[.string ⟨T.toArray⟩, .int .i64 n] 34)).heap hh (by simp)
    have c0 := cell_of_row _ w1.heap.size 0 _ _ _ hh3
    have c1 := cell_of_row _ w1.heap.size 1 _ _ _ hh3
    simp only [List.getElem?_toArray, List.getElem?_cons_zero, List.getElem?_cons_succ] at c0 c1
    clear hk2 hh hh3
    have heq := fun W => eqBits_same ⟨T.toArray⟩ n W
    go_wp2_with ((go_at_call 12; refine (awakeS _).mono ?_; rintro e w' ⟨rfl, hk⟩))
    go_ret
    exact ⟨rfl, (HK2.out.alloc _).new (by assumption) (by simp [Fresh])⟩
end Go.Proofs.Ytkkjhkjgdpodeaa
