/-
  The walks of rotate's key and compare.
-/
import Derived.Test.YtdaenajhgbagdaaPlainW
import Derived.Test.YtdaenajhgbagdaaWriteA
import Derived.Test.YtdaenajhgbagdaaPreX
import Derived.BigQuiet
namespace Go.Proofs.Ytdaenajhgbagdaa
open Go.RowKit
set_option linter.unusedVariables false
set_option linter.unusedSimpArgs false

theorem Sees.natC {w : World} {b off n i x : Nat} {xs : List Nat} (h : Sees w 1 (some ⟨b, off, none⟩) n (natVals xs)) (hx : xs[i]? = some x) : w.cell? ⟨b, off + i, none⟩ = some (.int .i64 (x : Int)) := by
  rw [natVals_int] at h
  exact h.int (by rw [List.getElem?_map, hx]; rfl)

/-- The struct of ranks, as a value. -/
def ranksV (a : Option Addr) (n c by_ : Nat) : Value := .agg #[.slice a n c, .int .i64 (by_ : Int)]

end Go.Proofs.Ytdaenajhgbagdaa
