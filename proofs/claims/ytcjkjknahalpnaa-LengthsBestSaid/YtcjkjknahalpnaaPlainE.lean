/-
  May bits be? In plain words.
-/
import Derived.Test.YtcjkjknahalpnaaPlainD
namespace Go.Proofs.Ytcjkjknahalpnaa
namespace K
set_option linter.unusedVariables false

/-- The n-th bit on are 0, and fewer than eight are left. -/
def mayR (s : List UInt8) (n : Int) : Bool := decide (0 ≤ n ∧ n ≤ (8 * s.length : Nat) ∧ ((8 * s.length : Nat) : Int) - n < 8) && ((bitsOf s).drop n.toNat).all (! ·)
theorem shl_zero : ∀ r : Fin 8, ∀ x : Fin 256, (x.val * 2 ^ r.val % 256 == 0) = ((List.range (8 - r.val)).all fun k => ! x.val.testBit (7 - (r.val + k))) := by decide +kernel
theorem mayR_len (s : List UInt8) (n : Nat) (h : ¬ s.length = n / 8 + (n % 8 + 7) / 8) : mayR s n = false := by
  have : ¬ (0 ≤ (n : Int) ∧ (n : Int) ≤ (8 * s.length : Nat) ∧ ((8 * s.length : Nat) : Int) - n < 8) := by omega
  unfold mayR
  rw [decide_eq_false this]
  rfl
theorem mayR_full (s : List UInt8) (n : Nat) (h : s.length = n / 8 + (n % 8 + 7) / 8) (h8 : n % 8 = 0) : mayR s n = true := by
  have h1 : 0 ≤ (n : Int) ∧ (n : Int) ≤ (8 * s.length : Nat) ∧ ((8 * s.length : Nat) : Int) - n < 8 := by omega
  unfold mayR
  rw [decide_eq_true h1, Int.toNat_natCast, List.drop_of_length_le (by rw [bitsOf_length]; omega)]
  rfl
theorem mayR_part (s : List UInt8) (n : Nat) (h : s.length = n / 8 + (n % 8 + 7) / 8) (h8 : ¬ n % 8 = 0) : mayR s n = ((s.getD (s.length - 1) 0).toNat * 2 ^ (n % 8) % 256 == 0) := by
  have h1 : 0 ≤ (n : Int) ∧ (n : Int) ≤ (8 * s.length : Nat) ∧ ((8 * s.length : Nat) : Int) - n < 8 := by omega
  have hl : s.length - 1 = n / 8 := by omega
  have hr := shl_zero ⟨n % 8, by omega⟩ ⟨(s.getD (s.length - 1) 0).toNat, UInt8.toNat_lt _⟩
  simp only at hr
  rw [hr]
  unfold mayR
  rw [decide_eq_true h1, Int.toNat_natCast, Bool.true_and, Bool.eq_iff_iff, List.all_eq_true, List.all_eq_true]
  constructor
  · intro hall k hk
    have hk' := List.mem_range.1 hk
    refine hall _ (List.mem_iff_getElem?.2 ⟨k, ?_⟩)
    rw [List.getElem?_drop, bitsOf_get s (n + k) (by omega)]
    congr 1
    unfold tbit
    rw [show (n + k) / 8 = n / 8 by omega, show (n + k) % 8 = n % 8 + k by omega, hl]
  · intro hall b hb
    obtain ⟨k, hk⟩ := List.mem_iff_getElem?.1 hb
    rw [List.getElem?_drop] at hk
    have hlt := (List.getElem?_eq_some_iff.1 hk).1
    rw [bitsOf_length] at hlt
    rw [bitsOf_get s (n + k) hlt] at hk
    have := hall k (List.mem_range.2 (by omega))
    rw [← Option.some.inj hk]
    unfold tbit
    rw [show (n + k) / 8 = n / 8 by omega, show (n + k) % 8 = n % 8 + k by omega, ← hl]
    exact this
end K
end Go.Proofs.Ytcjkjknahalpnaa
