/-
  How many bits lengths take.
-/
import Derived.Test.YtickefjlkpdifaaPlainH
namespace Go.Proofs.Ytickefjlkpdifaa
namespace K
/-- The steps' bits. -/
def sizes (now : Int) : List Int → Nat
  | [] => 0
  | x :: xs => 2 * (x - now).natAbs + sizes x xs
theorem showFrom_size (now : Int) (xs : List Int) : (showFrom now xs).length = xs.length + sizes now xs := by
  induction xs generalizing now with
  | nil => rfl
  | cons x xs ih =>
    rw [showFrom_cons, List.length_append, step_len, ih, List.length_cons]
    simp only [sizes]
    omega
theorem showBits_size (xs : List Int) (x0 : Int) (h : xs[0]? = some x0) : (showBits xs).length = 5 + xs.length + sizes x0 (xs.drop 1) := by
  cases xs with
  | nil => simp at h
  | cons x xs =>
    simp at h
    subst h
    unfold showBits
    rw [List.length_append, showFrom_size]
    have hl : (low x.toNat 5).length = 5 := by simp [low]
    simp only [List.headD_cons, hl, sizes, List.drop_one, List.tail_cons, List.length_cons]
    omega
end K
end Go.Proofs.Ytickefjlkpdifaa
