/-
  The walk of the reference's Slice, and both Slices whatever they are asked.
-/
import Derived.Test.YtdaenajhgbagdaaJoinA
namespace Go.Proofs.Ytdaenajhgbagdaa
open Go.RowKit
set_option linter.unusedVariables false
set_option linter.unusedSimpArgs false

/-- Both Slices, whatever they are asked. -/
theorem sliceR_no (s : ByteArray) (i n : Int) (h : i < 0 ∨ n < 0 ∨ (8 * s.size : Nat) < i ∨ (8 * s.size : Nat) - i < n) : K.sliceR s.data.toList i n = ([], 0, 2) := by
  unfold K.sliceR; rw [toList_length, if_pos h]
theorem sliceR_ok (s : ByteArray) (i n : Nat) (h : i + n ≤ 8 * s.size) : K.sliceR s.data.toList i n = (K.pack (K.piece (K.bitsOf s.data.toList) i n), (n : Int), 0) := by
  unfold K.sliceR; rw [toList_length, if_neg (by omega)]; rfl
end Go.Proofs.Ytdaenajhgbagdaa
