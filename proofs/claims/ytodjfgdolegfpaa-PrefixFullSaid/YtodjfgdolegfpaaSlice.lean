/-
  The walks of Slice, of the program and of the reference.
-/
import Derived.Test.YtodjfgdolegfpaaAnyA
import Derived.Test.YtodjfgdolegfpaaLibB
import Derived.Test.YtodjfgdolegfpaaPlainA
namespace Go.Proofs.Ytodjfgdolegfpaa
open Go.RowKit
set_option linter.unusedVariables false
set_option linter.unusedSimpArgs false

/-- A piece and an error, as they are returned. -/
def bitsV (p : List UInt8 × Int × Nat) : Value := .tuple #[.agg #[.string ⟨p.1.toArray⟩, .int .i64 p.2.1], .int .i64 p.2.2]

theorem takeR_one (s : ByteArray) (p : Nat) (h : p < 8 * s.size) : K.takeR (K.bitsOf s.data.toList) p 1 = ((K.tbit s.data.toList p).toNat, 0) := by
  unfold K.takeR
  rw [if_neg (by omega), if_neg (by rw [bitsOf_len]; simp; omega), show (1 : Int).toNat = 1 from rfl, K.piece_one _ _ (by rw [toList_length]; exact h), K.num_one]
theorem low_bit (b : Bool) : K.low ((b.toNat : Nat) : Int).toNat (1 : Int).toNat = [b] := by rw [Int.toNat_natCast]; exact K.low_one b
/-- In Slice's loop: j bits are moved. -/
def SliceI (w0 : World) (s : ByteArray) (r q b : Nat) (i n : Nat) (k : Nat) (c : Value) (w : World) : Prop :=
  ∃ j o, j ≤ n ∧ k = n - j ∧ c = .int .i64 (j : Nat) ∧ Rd w r q s (i + j) ∧ Wr w b o (K.piece (K.bitsOf s.data.toList) i j) ∧ Apart [r, q] (b :: foot o) ∧ Kept [] w0 w ∧ Fresh w0.heap.size (b :: foot o)

end Go.Proofs.Ytodjfgdolegfpaa
