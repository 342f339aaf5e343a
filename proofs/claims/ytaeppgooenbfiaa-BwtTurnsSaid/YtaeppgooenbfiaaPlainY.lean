/-
  The period of a text twice, plainly.
-/
import Derived.Test.YtaeppgooenbfiaaPlainX
namespace Go.Proofs.Ytaeppgooenbfiaa
namespace K
set_option linter.unusedVariables false

theorem fB_twice (l : List UInt8) (i : Nat) : fB (l ++ l) i = fB l i := by
  unfold fB
  rcases Nat.eq_zero_or_pos l.length with h0 | h0
  · have : l = [] := List.eq_nil_of_length_eq_zero h0
    subst this; rfl
  · rw [List.length_append, ← Nat.mod_mod_of_dvd i (show l.length ∣ l.length + l.length from ⟨2, by omega⟩)]
    have hj := Nat.mod_lt i (show 0 < l.length + l.length by omega)
    generalize i % (l.length + l.length) = j at hj ⊢
    by_cases h : j < l.length
    · rw [Nat.mod_eq_of_lt h, List.getD, List.getElem?_append_left h]; rfl
    · rw [List.getD, List.getElem?_append_right (by omega), show j % l.length = j - l.length by
        rw [show j = (j - l.length) + l.length by omega, Nat.add_mod_right, Nat.mod_eq_of_lt (by omega)]; omega]
      rfl
theorem rot_twice (l : List UInt8) (q : Nat) (hq : q ≤ l.length) : (l ++ l).drop q ++ (l ++ l).take q = l ++ l ↔ l.drop q ++ l.take q = l := by
  rw [rot_iff _ _ (by rw [List.length_append]; omega), rot_iff _ _ hq]
  constructor
  · intro h i; have := h i; rwa [fB_twice, fB_twice] at this
  · intro h i; rw [fB_twice, fB_twice]; exact h i
end K
end Go.Proofs.Ytaeppgooenbfiaa
