/-
  The walks of the references of layer 1: Bits, Text, Of, Number, Take, Unary, Slice, May, Join.
-/
import Derived.Test.YtcjkjknahalpnaaLib
import Derived.Test.YtcjkjknahalpnaaPlain
import Derived.Test.YtcjkjknahalpnaaPut
namespace Go.Proofs.Ytcjkjknahalpnaa
open Go.RowKit
set_option linter.unusedVariables false
set_option linter.unusedSimpArgs false

theorem Try.infoInt : (Try.prog.info? 3).map (fun i => (i.zero, i.size, i.bytes)) = some (some (.int .i64 0), 1, 8) := by kernel_rfl
/-- Bits as numbers 0 and 1. -/
def bis (l : List Bool) : List Value := l.map fun b => .int .i64 (b.toNat : Nat)
theorem bis_length (l : List Bool) : (bis l).length = l.length := by simp [bis]
theorem bis_get (l : List Bool) (j : Nat) (h : j < l.length) : (bis l)[j]? = some (.int .i64 (K.bt l j : Nat)) := by
  simp [bis, K.bt, List.getD, List.getElem?_eq_getElem h]
theorem bis_append (a b : List Bool) : bis (a ++ b) = bis a ++ bis b := by simp [bis]

theorem set_back (z : Value) (D : List Value) (m : Nat) (h : m < D.length) : (List.replicate (m + 1) z ++ D.drop (m + 1)).set m (D[m]'h) = List.replicate m z ++ D.drop m := by
  rw [List.replicate_succ', List.append_assoc, List.set_append_right _ _ (by simp), List.drop_eq_getElem_cons h]
  simp

/-- In Bits' loop: j bits are laid, from the end. -/
def BitsI (w0 : World) (g v n : Nat) (k : Nat) (x i : Value) (w : World) : Prop :=
  ∃ j, j ≤ n ∧ k = n - j ∧ i = .int .i64 ((n : Int) - 1 - j) ∧ x = .int .u64 (v / 2 ^ j : Nat) ∧
    Row w 3 (.slice (some ⟨g, 0, none⟩) n n) (List.replicate (n - j) (.int .i64 0) ++ (bis (K.low v n)).drop (n - j)) ∧ Kept [] w0 w

/-- In Text's outer loop: m bytes are told. -/
def TextI (w0 : World) (bs : List Bool) (k : Nat) (o i : Value) (w : World) : Prop :=
  ∃ m, 8 * m ≤ bs.length + 7 ∧ k = bs.length + 8 - 8 * m ∧ i = .int .i64 (8 * m : Nat) ∧ Row w 5 o (u8s ((K.pack bs).take m)) ∧ Kept [] w0 w ∧ Fresh w0.heap.size (foot o)
/-- In Text's inner loop: j bits of the byte are reckoned. -/
def TextJ (w0 : World) (bs : List Bool) (m : Nat) (k : Nat) (b j : Value) (w : World) : Prop :=
  ∃ x, x ≤ 8 ∧ k = 8 - x ∧ j = .int .i64 (x : Nat) ∧ b = .int .i64 (K.acc bs m x : Nat) ∧ w0 = w

end Go.Proofs.Ytcjkjknahalpnaa
