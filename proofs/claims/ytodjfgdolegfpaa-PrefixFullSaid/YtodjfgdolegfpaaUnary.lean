/-
  The walk of Unary (layer 1).
-/
import Derived.Test.YtodjfgdolegfpaaReader
namespace Go.Proofs.Ytodjfgdolegfpaa
open Go.RowKit
set_option linter.unusedVariables false
set_option linter.unusedSimpArgs false

/-- In Unary's loop: j 1 bits are passed. -/
def UnI (w : World) (s : ByteArray) (i : Nat) (most : Int) (k : Nat) (c : Value) (wr : World) : Prop :=
  ∃ j m, i + j ≤ 8 * s.size ∧ k = 8 * s.size - i - j ∧ c = .int .i64 j ∧ wr = w.drewN m ∧ K.unary most 0 ((K.bitsOf s.data.toList).drop i) = K.unary most j ((K.bitsOf s.data.toList).drop (i + j))

/-- What Unary leaves. -/
def UnPost (r q : Nat) (s : ByteArray) (i : Nat) (w : World) (p : Nat × Nat) (e : Ending) (w' : World) : Prop :=
  e = .returned (.tuple #[.int .i64 p.1, .int .i64 p.2]) ∧ Rd w' r q s (if p.2 = 0 then i + p.1 + 1 else i) ∧ Kept [r] w w'

end Go.Proofs.Ytodjfgdolegfpaa
