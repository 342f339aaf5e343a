/-
  The period of a text, plainly: the least is a divisor.
-/
import Derived.WalkKit
namespace Go.Proofs.Ytaeppgooenbfiaa
namespace K
set_option linter.unusedVariables false

def fB (l : List UInt8) (i : Nat) : UInt8 := l.getD (i % l.length) 0
theorem rot_get (l : List UInt8) (q j : Nat) (hq : q ≤ l.length) (hj : j < l.length) : (l.drop q ++ l.take q)[j]? = some (fB l (j + q)) := by
  unfold fB
  by_cases h : j < l.length - q
  · rw [List.getElem?_append_left (by rw [List.length_drop]; exact h), List.getElem?_drop, Nat.mod_eq_of_lt (by omega), List.getD, Nat.add_comm, List.getElem?_eq_getElem (by omega)]
    rfl
  · rw [List.getElem?_append_right (by rw [List.length_drop]; omega), List.length_drop, List.getElem?_take, if_pos (by omega)]
    have : (j + q) % l.length = j - (l.length - q) := by
      rw [show j + q = (j - (l.length - q)) + l.length by omega, Nat.add_mod_right, Nat.mod_eq_of_lt (by omega)]
    rw [this, List.getD, List.getElem?_eq_getElem (by omega)]
    rfl
theorem rot_iff (l : List UInt8) (q : Nat) (hq : q ≤ l.length) : l.drop q ++ l.take q = l ↔ ∀ i, fB l (i + q) = fB l i := by
  constructor
  · intro h i
    rcases Nat.eq_zero_or_pos l.length with h0 | h0
    · have : l = [] := List.eq_nil_of_length_eq_zero h0
      subst this; rfl
    · have hj := Nat.mod_lt i h0
      have := rot_get l q (i % l.length) hq hj
      rw [h, List.getElem?_eq_getElem hj] at this
      have h2 : fB l i = l[i % l.length] := by unfold fB; rw [List.getD, List.getElem?_eq_getElem hj]; rfl
      have h3 : fB l (i % l.length + q) = fB l (i + q) := by unfold fB; rw [Nat.mod_add_mod]
      rw [h2, ← h3]
      exact (Option.some.inj this).symm
  · intro h
    apply List.ext_getElem?
    intro j
    by_cases hj : j < l.length
    · rw [rot_get l q j hq hj, h]
      unfold fB
      rw [Nat.mod_eq_of_lt hj, List.getD, List.getElem?_eq_getElem hj]
      rfl
    · rw [List.getElem?_eq_none (by rw [List.length_append, List.length_drop, List.length_take]; omega), List.getElem?_eq_none (by omega)]
theorem per_mul (l : List UInt8) (p : Nat) (h : ∀ i, fB l (i + p) = fB l i) : ∀ k i, fB l (i + k * p) = fB l i := by
  intro k
  induction k with
  | zero => intro i; rw [Nat.zero_mul, Nat.add_zero]
  | succ k ih => intro i; rw [Nat.succ_mul, ← Nat.add_assoc, h, ih]
/-- The least place at which a text is itself divides its length. -/
theorem least_div (l : List UInt8) (p : Nat) (hp : 1 ≤ p) (hpl : p ≤ l.length) (h : l.drop p ++ l.take p = l) (hleast : ∀ q, 1 ≤ q → q < p → l.drop q ++ l.take q ≠ l) : l.length % p = 0 := by
  rcases Nat.eq_zero_or_pos (l.length % p) with h0 | h0
  · exact h0
  · exfalso
    have hlt := Nat.mod_lt l.length (show 0 < p by omega)
    refine hleast (l.length % p) h0 hlt ((rot_iff l _ (by omega)).2 fun i => ?_)
    have h1 := (rot_iff l p hpl).1 h
    have h2 := per_mul l p h1 (l.length / p) (i + l.length % p)
    have h3 : i + l.length % p + l.length / p * p = i + l.length := by
      have := Nat.mod_add_div l.length p
      rw [Nat.mul_comm] at this
      omega
    rw [h3] at h2
    rw [← h2]
    unfold fB
    rw [Nat.add_mod_right]
end K
end Go.Proofs.Ytaeppgooenbfiaa
