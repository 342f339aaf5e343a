/-
  GroupsTables: the walk.
-/
import Derived.Test.YtdaenajhgbagdaaAwakeG
namespace Go.Proofs.Ytdaenajhgbagdaa
open Go.RowKit
set_option linter.unusedVariables false
set_option linter.unusedSimpArgs false

theorem groupsTables_walk (m : Int) (w : World) (hm : -9223372036854775808 ≤ m ∧ m ≤ 9223372036854775807) :
    Calls Try.prog 3 #[.int .i64 m] w fun e w' => e = .returned (.bool true) ∧ Kept [] w w' := by
  clear hm
  obtain ⟨R, hR⟩ : ∃ R, K.tablesR m = R := ⟨_, rfl⟩
  have HR := Lib.hid hR
  clear hR
  obtain ⟨a, b⟩ := R
  go_enter Try.func3, Try.ntmps3
  go_wp2_with fail
  refine (gtables_any m w).mono ?_
  intro e w' hp
  unfold TablesPost at hp
  rw [HR.out] at hp
  obtain ⟨rfl, rfl⟩ := hp
  go_wp2_with fail
  refine (rgtables_any m w).mono ?_
  intro e w' hp
  unfold TablesPost at hp
  rw [HR.out] at hp
  obtain ⟨rfl, rfl⟩ := hp
  go_wp2_with ((go_at_call 14; refine (awakeG _).mono ?_; rintro e w' ⟨rfl, hk⟩))
  go_ret
  exact ⟨rfl, ‹_›⟩
end Go.Proofs.Ytdaenajhgbagdaa
