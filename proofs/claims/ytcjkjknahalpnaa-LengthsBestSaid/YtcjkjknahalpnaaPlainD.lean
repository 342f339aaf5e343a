/-
  Pieces of bits, in plain words.
-/
import Derived.Test.YtcjkjknahalpnaaPlainC
namespace Go.Proofs.Ytcjkjknahalpnaa
namespace K

theorem piece_one (s : List UInt8) (p : Nat) (h : p < 8 * s.length) : piece (bitsOf s) p 1 = [tbit s p] := by
  have := piece_succ s p 0 (by omega)
  rw [piece_zero] at this
  simpa using this
theorem num_one (b : Bool) : num [b] = b.toNat := by simp [num]
theorem low_one (b : Bool) : low b.toNat 1 = [b] := by cases b <;> rfl
/-- What Slice answers: the text, how many bits, the error. -/
def sliceR (s : List UInt8) (i n : Int) : List UInt8 × Int × Nat :=
  if i < 0 ∨ n < 0 ∨ (8 * s.length : Nat) < i ∨ (8 * s.length : Nat) - i < n then ([], 0, 2) else (pack (piece (bitsOf s) i.toNat n.toNat), n, 0)
end K
end Go.Proofs.Ytcjkjknahalpnaa
