/-
  '==' of two pieces of bits.
-/
import Derived.Test.YtdaenajhgbagdaaProg
import Derived.WalkKit
namespace Go.Proofs.Ytdaenajhgbagdaa
set_option linter.unusedVariables false
set_option linter.unusedSimpArgs false

theorem eqBits (a b : ByteArray) (m n : Int) (w : World) : (binOp .eql 35 (.agg #[.string a, .int .i64 m]) (.agg #[.string b, .int .i64 n])).run Try.prog w = .ok (.bool (a.toList == b.toList && m == n)) w := by
  rw [run_eql_struct, run_equalIn_agg _ _ _ _ _ (by kernel_rfl) (by kernel_rfl)]
  simp [Program.fieldsOf, Try.underlying35, Op.eqFields, go_sem, part, Try.underlying9, Try.underlying3]
  by_cases h1 : a.toList = b.toList <;> by_cases h2 : m = n <;> simp [h1, h2]
theorem eqBits_same (a : ByteArray) (m : Int) (w : World) : (binOp .eql 35 (.agg #[.string a, .int .i64 m]) (.agg #[.string a, .int .i64 m])).run Try.prog w = .ok (.bool true) w := by
  rw [eqBits]; simp
end Go.Proofs.Ytdaenajhgbagdaa
