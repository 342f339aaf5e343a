/-
  The walk of kistref08.least.
-/
import Derived.Test.YtodjfgdolegfpaaLenD
import Derived.Test.YtodjfgdolegfpaaHufAll
import Derived.BigQuiet
namespace Go.Proofs.Ytodjfgdolegfpaa
open Go.RowKit
set_option linter.unusedVariables false
set_option linter.unusedSimpArgs false

theorem Sees.natD {w : World} {b off n i x : Nat} {xs : List Nat} (h : Sees w 1 (some ⟨b, off, none⟩) n (natVals xs)) (hx : xs[i]? = some x) : w.cell? ⟨b, off + i, none⟩ = some (.int .i64 (x : Int)) := by
  rw [natVals_int] at h
  exact h.int (by rw [List.getElem?_map, hx]; rfl)
def leastV : Option Nat → Int
  | none => -1
  | some a => (a : Int)
theorem leastI_lt {W over : List Nat} {k a : Nat} (h : K.leastI W over k = some a) : a < k := by
  rcases K.leastI_spec W over k with ⟨h1, -⟩ | ⟨b, h1, h2⟩
  · rw [h] at h1; exact absurd h1 (by simp)
  · rw [h] at h1; cases h1; exact h2.1


end Go.Proofs.Ytodjfgdolegfpaa
