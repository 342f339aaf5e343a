/-
  The walks of lengths.Cost and kistref08.Cost.
-/
import Derived.Test.YtodjfgdolegfpaaLenB
import Derived.BigQuiet
namespace Go.Proofs.Ytodjfgdolegfpaa
open Go.RowKit
set_option linter.unusedVariables false
set_option linter.unusedSimpArgs false

/-- What the first i lengths cost. -/
def dotI (ws ls : List Int) : Nat → Int
  | 0 => 0
  | i + 1 => dotI ws ls i + ws.getD i 0 * ls.getD i 0
/-- A length that Cost takes. -/
def costOk (ws ls : List Int) : Bool := mayL ws && decide (ls.length = ws.length) && ls.all fun x => decide (0 ≤ x ∧ x ≤ 20)
def costN (ws ls : List Int) : Int := if costOk ws ls then dotI ws ls ls.length else 0
def costE (ws ls : List Int) : Int := if costOk ws ls then 0 else 2

theorem mayL_get {ws : List Int} (h : mayL ws = true) : 2 ≤ ws.length ∧ ws.length ≤ 258 ∧ ∀ x ∈ ws, 0 ≤ x ∧ x ≤ 1073741824 := by
  unfold mayL at h
  rw [Bool.and_eq_true, Bool.and_eq_true, List.all_eq_true, decide_eq_true_eq, decide_eq_true_eq] at h
  exact ⟨h.1.1, h.1.2, fun x hx => by have := h.2 x hx; rwa [decide_eq_true_eq] at this⟩
theorem dot_mul {x y : Int} (h : 0 ≤ x ∧ x ≤ 1073741824) (h' : 0 ≤ y ∧ y ≤ 20) : 0 ≤ x * y ∧ x * y ≤ 21474836480 := by
  refine ⟨Int.mul_nonneg h.1 h'.1, ?_⟩
  have := Int.mul_le_mul h.2 h'.2 h'.1 (by omega : (0 : Int) ≤ 1073741824)
  omega

def CostPost (ws ls : List Int) (w : World) (e : Ending) (w' : World) : Prop := e = .returned (.tuple #[.int .i64 (costN ws ls), .int .i64 (costE ws ls)]) ∧ w = w'

end Go.Proofs.Ytodjfgdolegfpaa
