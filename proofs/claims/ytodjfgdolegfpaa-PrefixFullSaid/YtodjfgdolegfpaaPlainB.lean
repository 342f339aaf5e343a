/-
  What Take and Unary answer, in plain words.
-/
import Derived.Test.YtodjfgdolegfpaaPlainA
namespace Go.Proofs.Ytodjfgdolegfpaa
namespace K

/-- What Take answers: the number and the error. -/
def takeR (bs : List Bool) (i : Nat) (n : Int) : Nat × Nat := if n < 0 ∨ 64 < n then (0, 2) else if bs.length < i + n.toNat then (0, 10) else (num (piece bs i n.toNat), 0)
/-- What Unary answers. -/
def unaryR (bs : List Bool) (i : Nat) (most : Int) : Nat × Nat := if most < 0 then (0, 2) else unary most 0 (bs.drop i)
theorem takeR_zero (bs : List Bool) (i : Nat) (n : Int) (h : (takeR bs i n).2 = 0) : 0 ≤ n ∧ n ≤ 64 ∧ i + n.toNat ≤ bs.length := by
  unfold takeR at h
  split at h
  · simp at h
  · split at h
    · simp at h
    · omega
theorem takeR_lt (bs : List Bool) (i : Nat) (n : Int) : (takeR bs i n).1 < 18446744073709551616 ∧ (takeR bs i n).2 ≤ 10 := by
  unfold takeR
  split
  · simp
  · split
    · simp
    · rename_i h1 h2
      have := num_lt (piece bs i n.toNat)
      rw [piece_length bs i n.toNat (by omega)] at this
      have h3 : 2 ^ n.toNat ≤ 2 ^ 64 := Nat.pow_le_pow_right (by decide) (by omega)
      simp
      omega
theorem unary_le (most : Int) : ∀ (l : List Bool) (n : Nat), (unary most n l).2 ≤ 10 ∧ (unary most n l).1 ≤ n + l.length ∧ ((unary most n l).2 = 0 → (unary most n l).1 + 1 ≤ n + l.length)
  | [], n => by simp [unary]
  | false :: t, n => by simp [unary] <;> omega
  | true :: t, n => by
    simp only [unary]
    split
    · simp
    · have := unary_le most t (n + 1)
      simp only [List.length_cons]
      omega
theorem unaryR_zero (bs : List Bool) (i : Nat) (most : Int) (hi : i ≤ bs.length) : (unaryR bs i most).2 ≤ 10 ∧ (unaryR bs i most).1 ≤ bs.length ∧ ((unaryR bs i most).2 = 0 → i + (unaryR bs i most).1 + 1 ≤ bs.length) := by
  unfold unaryR
  split
  · simp
  · have := unary_le most (bs.drop i) 0
    rw [List.length_drop] at this
    omega
end K
end Go.Proofs.Ytodjfgdolegfpaa
