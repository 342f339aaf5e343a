/-
  Rotations compared as lists of bytes, and as numbers.
-/
import Derived.WalkKit
import Derived.Test.YtaeppgooenbfiaaPlainX
import Derived.Test.YtaeppgooenbfiaaPlainW
namespace Go.Proofs.Ytaeppgooenbfiaa
namespace K
set_option linter.unusedVariables false

/-- m bytes from place i on. -/
def seg (g : Nat → UInt8) : Nat → Nat → List UInt8
  | 0, _ => []
  | m + 1, i => g i :: seg g m (i + 1)
theorem seg_length (g : Nat → UInt8) : ∀ m i, (seg g m i).length = m := by
  intro m
  induction m with
  | zero => intro i; rfl
  | succ m ih => intro i; rw [seg, List.length_cons, ih]
theorem seg_get (g : Nat → UInt8) : ∀ m i k, k < m → (seg g m i)[k]? = some (g (i + k)) := by
  intro m
  induction m with
  | zero => intro i k h; omega
  | succ m ih =>
    intro i k h
    rw [seg]
    cases k with
    | zero => rfl
    | succ k => rw [List.getElem?_cons_succ, ih (i + 1) k (by omega), show i + 1 + k = i + (k + 1) by omega]
theorem rot_seg (l : List UInt8) (i : Nat) (hi : i ≤ l.length) : l.drop i ++ l.take i = seg (fB l) l.length i := by
  apply List.ext_getElem?
  intro k
  by_cases hk : k < l.length
  · rw [rot_get l i k hi hk, seg_get _ _ _ _ hk, Nat.add_comm]
  · rw [List.getElem?_eq_none (by rw [List.length_append, List.length_drop, List.length_take]; omega), List.getElem?_eq_none (by rw [seg_length]; omega)]
theorem seg_less (g : Nat → UInt8) : ∀ m i j, Op.bytesLess (seg g m i) (seg g m j) = decide (N (fun k => (g k).toNat) m i < N (fun k => (g k).toNat) m j) := by
  intro m
  induction m with
  | zero => intro i j; rfl
  | succ m ih =>
    intro i j
    have hf : ∀ k, (fun k => (g k).toNat) k < 256 := fun k => UInt8.toNat_lt _
    rw [seg, seg, Op.bytesLess, ih, show m + 1 = 1 + m by omega, N_add, N_add, N_one, N_one, decide_eq_decide.2 (lex_num (N_lt _ hf m _) (N_lt _ hf m _))]
    rw [Bool.decide_or, Bool.decide_and]
    congr 1
    congr 1
    rw [Bool.eq_iff_iff, beq_iff_eq, decide_eq_true_iff, UInt8.toNat_inj]
end K
end Go.Proofs.Ytaeppgooenbfiaa
