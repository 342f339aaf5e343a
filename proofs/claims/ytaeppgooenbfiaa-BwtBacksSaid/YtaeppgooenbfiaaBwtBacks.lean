/-
  BwtBacks: the walk.
-/
import Derived.Test.YtaeppgooenbfiaaBwtD
namespace Go.Proofs.Ytaeppgooenbfiaa
open Go.RowKit
set_option linter.unusedVariables false
set_option linter.unusedSimpArgs false

set_option maxRecDepth 100000 in
theorem bwtBacks_walk (s : ByteArray) (i : Int) (w : World) (hs : s.size ≤ 140737488351232) (hi : -9223372036854775808 ≤ i ∧ i ≤ 9223372036854775807) :
    Calls Try.prog 10 #[.string s, .int .i64 i] w fun e w' => e = .returned (.bool true) ∧ Kept [] w w' := by
  clear hi
  by_cases h : 1500 < s.size ∧ s.size ≤ 262144
  · have g1 : decide (1500 < (s.size : Int)) = true := by simp; omega
    have g2 : decide ((s.size : Int) ≤ 262144) = true := by simp; omega
    clear h
    go_enter Try.func10, Try.ntmps10
    go_wp2_with ((go_at_call 24; refine (awakeB _).mono ?_; rintro e w' ⟨rfl, hk⟩))
    go_ret
    exact ⟨rfl, by assumption⟩
  · obtain ⟨bs, er, hR⟩ : ∃ bs er, backA s i = (bs, er) := ⟨_, _, rfl⟩
    have hb := fun w => back_any s i w hs
    have hrb := fun w => rback_any s i w hs
    rw [hR] at hb hrb
    have HB := Lib.hid hb
    have HRB := Lib.hid hrb
    have g1 : (decide (1500 < (s.size : Int)) && decide ((s.size : Int) ≤ 262144)) = false := by simp; omega
    have key : decide (1500 < (s.size : Int)) = false ∨ (decide (1500 < (s.size : Int)) = true ∧ decide ((s.size : Int) ≤ 262144) = false) := by simp; omega
    clear hb hrb hR h g1
    rcases key with g1 | ⟨g1, g2⟩
    all_goals
      go_enter Try.func10, Try.ntmps10
      go_wp2_with fail
      refine (HB.out _).mono ?_
      rintro e w1 ⟨rfl, hk1⟩
      have HK1 := Lib.hid hk1
      clear hk1
      go_wp2_with fail
      refine (HRB.out _).mono ?_
      rintro e w2 ⟨rfl, hk2⟩
      have HK2 := Lib.hid (HK1.out.new hk2 (by simp [Fresh]))
      clear hk2
      go_wp2_with ((go_at_call 24; refine (awakeB _).mono ?_; rintro e w' ⟨rfl, hk⟩))
      go_ret
      exact ⟨rfl, HK2.out.new (by assumption) (by simp [Fresh])⟩
end Go.Proofs.Ytaeppgooenbfiaa
