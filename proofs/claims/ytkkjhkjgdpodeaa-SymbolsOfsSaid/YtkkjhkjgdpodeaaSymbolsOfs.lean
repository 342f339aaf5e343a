/-
  SymbolsOfs: the walk.
-/
import Derived.Test.YtkkjhkjgdpodeaaAwakeS
import Derived.Test.YtkkjhkjgdpodeaaSymE
namespace Go.Proofs.Ytkkjhkjgdpodeaa
open Go.RowKit
set_option linter.unusedVariables false
set_option linter.unusedSimpArgs false

theorem symbolsOfs_walk (s : ByteArray) (w : World) (hs : s.size ≤ 140737488351232) :
    Calls Try.prog 3 #[.string s] w fun e w' => e = .returned (.bool true) ∧ Kept [] w w' := by
  by_cases h : 2000 < s.size
  · have g1 : decide (2000 < (s.size : Int)) = true := by simp; omega
    go_enter Try.func3, Try.ntmps3
    go_wp2_with ((go_at_call 12; refine (awakeS _).mono ?_; rintro e w' ⟨rfl, hk⟩))
    go_ret
    exact ⟨rfl, by assumption⟩
  · have g1 : decide (2000 < (s.size : Int)) = false := by simp; omega
    go_enter Try.func3, Try.ntmps3
    go_wp2_with fail
    refine (sof_any s _ hs).mono ?_
    rintro e w1 ⟨rfl, hk1⟩
    have HK1 := Lib.hid hk1
    clear hk1
    go_wp2_with fail
    refine (rof_any s _ hs).mono ?_
    rintro e w2 ⟨rfl, hk2⟩
    have HK2 := Lib.hid (HK1.out.new hk2 (by simp [Fresh]))
    clear hk2
    go_wp2_with ((go_at_call 12; refine (awakeS _).mono ?_; rintro e w' ⟨rfl, hk⟩))
    go_ret
    exact ⟨rfl, HK2.out.new (by assumption) (by simp [Fresh])⟩
end Go.Proofs.Ytkkjhkjgdpodeaa
