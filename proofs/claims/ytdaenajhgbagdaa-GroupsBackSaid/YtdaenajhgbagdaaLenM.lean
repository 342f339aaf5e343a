/-
  Full lengths are good ones.
-/
import Derived.Test.YtdaenajhgbagdaaHufWalk
namespace Go.Proofs.Ytdaenajhgbagdaa
open Go.RowKit
set_option linter.unusedVariables false
set_option linter.unusedSimpArgs false
theorem natsOf_cast (ls : List Nat) : K.natsOf (ls.map fun n : Nat => (n : Int)) = ls := by
  simp only [K.natsOf, List.map_map]
  conv => rhs; rw [← List.map_id ls]
  apply List.map_congr_left
  intro x _
  simp
theorem full_good {ls : List Nat} (h : fullL (ls.map fun n : Nat => (n : Int)) = true) : K.goodL (ls.map fun n : Nat => (n : Int)) = true ∧ K.room (K.natsOf (ls.map fun n : Nat => (n : Int))) = 1048576 ∧ K.natsOf (ls.map fun n : Nat => (n : Int)) = ls := by
  unfold fullL at h
  rw [decide_eq_true_eq] at h
  unfold sumR at h
  split at h
  · rename_i hok
    exact ⟨by unfold K.goodL; rw [hok, h]; decide, h, natsOf_cast ls⟩
  · simp at h
end Go.Proofs.Ytdaenajhgbagdaa
