/-
  The walks of lengths.Full, kistref08.Full.
-/
import Derived.Test.YtodjfgdolegfpaaLenC
namespace Go.Proofs.Ytodjfgdolegfpaa
open Go.RowKit
set_option linter.unusedVariables false
set_option linter.unusedSimpArgs false

/-- Whether lengths are full. -/
def fullL (xs : List Int) : Bool := decide (sumR xs = 1048576)
theorem fullL_room (xs : List Int) : fullL xs = decide (roomR xs = 1048576) := by
  unfold fullL
  have hg := sumR_good xs
  apply decide_eq_decide.2
  constructor
  · intro h
    have : K.goodL xs = true := by rw [hg, h]; decide
    unfold roomR
    rw [this, if_pos rfl]
    unfold sumR at h
    split at h
    · rw [h]; rfl
    · simp at h
  · intro h
    unfold roomR at h
    split at h
    · rename_i hk
      rw [hk] at hg
      have h2 := hg.symm
      rw [Bool.and_eq_true, decide_eq_true_eq, decide_eq_true_eq] at h2
      unfold sumR at h2 ⊢
      split
      · omega
      · rename_i hn
        rw [if_neg hn] at h2
        exact absurd rfl h2.1
    · omega
end Go.Proofs.Ytodjfgdolegfpaa
