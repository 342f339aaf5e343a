/-
  The walk of kistref08.Flat.
-/
import Derived.Test.YtodjfgdolegfpaaRefO
import Derived.Test.YtodjfgdolegfpaaHufAll
import Derived.BigQuiet
namespace Go.Proofs.Ytodjfgdolegfpaa
open Go.RowKit
set_option linter.unusedVariables false
set_option linter.unusedSimpArgs false

theorem pow_big {k n : Nat} (h : 2 ^ k ≤ n) (hn : n ≤ 258) : k ≤ 8 := by
  rcases Nat.lt_or_ge k 9 with h' | h'
  · omega
  · have := Nat.pow_le_pow_right (n := 2) (by omega) h'
    omega
theorem ownN_get {xs : List Int} {i : Nat} {x : Int} (h : xs[i]? = some x) : (((ownN xs).getD i 0 : Nat) : Int) = clampI x := by
  have h1 : (ownN xs)[i]? = some (clampI x).toNat := by simp [ownN, h]
  have h2 := clampI_pos x
  rw [List.getD, h1, Option.getD_some]
  omega
theorem before_int {xs : List Int} {i j : Nat} {x y : Int} (hx : xs[i]? = some x) (hy : xs[j]? = some y) : K.before (ownN xs) i j = decide (clampI x < clampI y ∨ (clampI y = clampI x ∧ j < i)) := by
  have h1 := ownN_get hx
  have h2 := ownN_get hy
  unfold K.before
  apply decide_eq_decide.2
  omega
/-- So many symbols have got their flat lengths. -/
def FlatI (w0 : World) (xs : List Int) (go : Nat) (g : Nat) (v : Value) (wr : World) : Prop :=
  ∃ i : Nat, g = xs.length - i ∧ i ≤ xs.length ∧ v = .int .i64 (i : Nat) ∧ Hid (Row wr 3 (.slice (some ⟨go, 0, none⟩) xs.length xs.length) (natVals ((K.flatL (ownN xs)).take i ++ List.replicate (xs.length - i) 0))) ∧ Hid (Kept [] w0 wr)
/-- Those in front are counted. -/
def FrontI (w0 : World) (xs : List Int) (i : Nat) (g : Nat) (v8 v9 : Value) (wr : World) : Prop :=
  ∃ j f : Nat, g = xs.length - j ∧ j ≤ xs.length ∧ f ≤ j ∧ Hid (f = K.frontTo (ownN xs) i j) ∧ v8 = .int .i64 (f : Nat) ∧ v9 = .int .i64 (j : Nat) ∧ Hid (Kept [] w0 wr)
end Go.Proofs.Ytodjfgdolegfpaa
