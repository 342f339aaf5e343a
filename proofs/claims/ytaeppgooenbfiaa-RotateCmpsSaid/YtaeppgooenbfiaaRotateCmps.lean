/-
  RotateCmps: the walk.
-/
import Derived.Test.YtaeppgooenbfiaaRotK
namespace Go.Proofs.Ytaeppgooenbfiaa
open Go.RowKit
set_option linter.unusedVariables false
set_option linter.unusedSimpArgs false

theorem rotateCmps_walk (s : ByteArray) (i j : Int) (w : World) (hs : s.size ≤ 140737488351232) (hi : -9223372036854775808 ≤ i ∧ i ≤ 9223372036854775807) (hj : -9223372036854775808 ≤ j ∧ j ≤ 9223372036854775807) :
    Calls Try.prog 6 #[.string s, .int .i64 i, .int .i64 j] w fun e w' => e = .returned (.bool true) ∧ Kept [] w w' := by
  clear hi hj
  by_cases h : 2000 < s.size
  · have g1 : decide (2000 < (s.size : Int)) = true := by simp; omega
    go_enter Try.func6, Try.ntmps6
    go_wp2_with ((go_at_call 17; refine (awakeR _).mono ?_; rintro e w' ⟨rfl, hk⟩))
    go_ret
    exact ⟨rfl, by assumption⟩
  · have g1 : decide (2000 < (s.size : Int)) = false := by simp; omega
    go_enter Try.func6, Try.ntmps6
    go_wp2_with fail
    refine (cmp_any s i j _ (by omega)).mono ?_
    rintro e w1 ⟨rfl, hk1⟩
    have HK1 := Lib.hid hk1
    clear hk1
    go_wp2_with fail
    refine (rcmp_any s i j _ (by omega)).mono ?_
    rintro e w2 ⟨rfl, hk2⟩
    have HK2 := Lib.hid (HK1.out.new hk2 (by simp [Fresh]))
    clear hk2
    obtain ⟨n, er, hR⟩ : ∃ (n : Int) (er : Nat), cmpA s i j = (n, er) := ⟨_, _, rfl⟩
    rw [hR]
    clear hR
    go_wp2_with ((go_at_call 17; refine (awakeR _).mono ?_; rintro e w' ⟨rfl, hk⟩))
    go_ret
    exact ⟨rfl, HK2.out.new (by assumption) (by simp [Fresh])⟩
end Go.Proofs.Ytaeppgooenbfiaa
