/-
  The walks of the references Take and Unary of layer 1.
-/
import Derived.Test.YtodjfgdolegfpaaRefB
namespace Go.Proofs.Ytodjfgdolegfpaa
open Go.RowKit
set_option linter.unusedVariables false
set_option linter.unusedSimpArgs false

/-- A part of what is seen. -/
theorem Sees.part {w : World} {a : Option Addr} {n : Nat} {xs : List Value} (h : Sees w 1 a n xs) (i m : Nat) (hi : i + m ≤ n) {a' : Option Addr} (ha : 0 < m → ∀ b off, a = some ⟨b, off, none⟩ → a' = some ⟨b, off + i, none⟩) :
    Sees w 1 a' m ((xs.drop i).take m) := by
  have hl := h.1
  refine ⟨by simp; omega, fun j u hj => ?_⟩
  have hjm : j < m := by have := (List.getElem?_eq_some_iff.1 hj).1; simp at this; omega
  rw [List.getElem?_take, if_pos hjm, List.getElem?_drop] at hj
  obtain ⟨b, off, he, hc⟩ := h.2 (i + j) u hj
  exact ⟨b, off + i, ha (by omega) b off he, by rw [Nat.add_assoc]; exact hc⟩

/-- In the reference's Unary: x 1 bits are passed. -/
def RUnI (w0 : World) (bs : List Bool) (i : Nat) (most : Int) (k : Nat) (c : Value) (w : World) : Prop :=
  ∃ x, i + x ≤ bs.length ∧ k = bs.length - i - x ∧ c = .int .i64 (x : Nat) ∧ w0 = w ∧ K.unary most 0 (bs.drop i) = K.unary most x (bs.drop (i + x))

end Go.Proofs.Ytodjfgdolegfpaa
