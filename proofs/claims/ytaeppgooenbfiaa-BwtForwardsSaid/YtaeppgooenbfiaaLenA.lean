/-
  The walks of lengths' sum and Check, and of the reference's.
-/
import Derived.Test.YtaeppgooenbfiaaPlainP
import Derived.Test.YtaeppgooenbfiaaInts
import Derived.Test.YtaeppgooenbfiaaLibD
namespace Go.Proofs.Ytaeppgooenbfiaa
open Go.RowKit
set_option linter.unusedVariables false
set_option linter.unusedSimpArgs false

theorem room_pos (ls : List Nat) (h : 0 < ls.length) : 0 < K.room ls := by
  cases ls with
  | nil => simp at h
  | cons x ls =>
    have e : K.room (x :: ls) = 2 ^ (20 - x) + K.room ls := by simp [K.room]
    have := Nat.two_pow_pos (20 - x)
    rw [e]; omega
/-- What sum tells. -/
def sumR (xs : List Int) : Nat := if K.lensOk xs then K.room (K.natsOf xs) else 0
/-- In the loops: i lengths take so much room. -/
def SumI (w0 : World) (xs : List Int) (k : Nat) (n c : Value) (w : World) : Prop :=
  ∃ i, i ≤ xs.length ∧ k = xs.length - i ∧ c = .int .i64 (i : Nat) ∧ n = .int .i64 (K.room (K.natsOf (xs.take i)) : Nat) ∧ ((xs.take i).all fun x => decide (1 ≤ x ∧ x ≤ 20)) = true ∧ w0 = w
theorem natsOf_snoc (xs : List Int) (x : Int) : K.natsOf (xs ++ [x]) = K.natsOf xs ++ [x.toNat] := by simp [K.natsOf]
theorem pow20 (m : Nat) : 2 ^ (20 - m) ≤ 1048576 := by
  have : (2 : Nat) ^ (20 - m) ≤ 2 ^ 20 := Nat.pow_le_pow_right (by decide) (by omega)
  exact this
theorem pow19 (m : Nat) (h : 1 ≤ m) : 2 ^ (20 - m) ≤ 524288 := by
  have : (2 : Nat) ^ (20 - m) ≤ 2 ^ 19 := Nat.pow_le_pow_right (by decide) (by omega)
  exact this
theorem room_le2 (ls : List Nat) (h : ∀ x ∈ ls, 1 ≤ x) : K.room ls ≤ ls.length * 524288 := by
  induction ls with
  | nil => simp [K.room]
  | cons x ls ih =>
    have ih := ih (fun y hy => h y (by simp [hy]))
    have := pow19 x (h x (by simp))
    have e : K.room (x :: ls) = 2 ^ (20 - x) + K.room ls := by simp [K.room]
    rw [e, List.length_cons, Nat.succ_mul]
    omega
theorem natsOf_pos (xs : List Int) (h : (xs.all fun x => decide (1 ≤ x ∧ x ≤ 20)) = true) : ∀ x ∈ K.natsOf xs, 1 ≤ x := by
  intro x hx
  simp only [K.natsOf, List.mem_map] at hx
  obtain ⟨y, hy, rfl⟩ := hx
  rw [List.all_eq_true] at h
  have := of_decide_eq_true (h y hy)
  omega
theorem lensOk_all (xs : List Int) (h2 : 2 ≤ xs.length ∧ xs.length ≤ 258) (h : ((xs.take xs.length).all fun x => decide (1 ≤ x ∧ x ≤ 20)) = true) : K.lensOk xs = true := by
  rw [List.take_length] at h
  unfold K.lensOk
  rw [h]; simp; exact h2

theorem sumR_good (xs : List Int) : K.goodL xs = (decide (sumR xs ≠ 0) && decide (sumR xs ≤ 1048576)) := by
  unfold sumR K.goodL
  rcases Bool.eq_false_or_eq_true (K.lensOk xs) with h | h
  · have hl := ((K.lensOk_iff xs).1 h).1
    have := room_pos (K.natsOf xs) (by rw [K.natsOf_length]; omega)
    rw [h, if_pos rfl]
    have : K.room (K.natsOf xs) ≠ 0 := by omega
    simp [this]
  · rw [h]; simp
/-- What Check tells. -/
def checkR (xs : List Int) : Nat := if K.goodL xs then 0 else 80
/-- What the reference's room tells. -/
def roomR (xs : List Int) : Int := if K.goodL xs then (K.room (K.natsOf xs) : Nat) else -1
end Go.Proofs.Ytaeppgooenbfiaa
