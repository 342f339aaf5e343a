/-
  A block that holds just the cells xs (an array): loaded whole, one element of it taken.
-/
import Derived.Test.YtodjfgdolegfpaaLibE
import Derived.Laws.PanicsMore
namespace Go.Proofs.Ytodjfgdolegfpaa
open Go.RowKit
set_option linter.unusedVariables false
set_option linter.unusedSimpArgs false

/-- Block g is the array xs. -/
def Arr (w : World) (g : Nat) (t : TypeId) (xs : List Value) : Prop := w.heap[g]? = some (.cells xs.toArray t (0, 0))
theorem Arr.new (w : World) (xs : List Value) (t : TypeId) : Arr (w.alloc (.cells xs.toArray t)) w.heap.size t xs := heap_alloc_new w _
theorem Arr.cell {w : World} {g : Nat} {t : TypeId} {xs : List Value} (h : Arr w g t xs) {i : Nat} {u : Value} (hi : xs[i]? = some u) : w.cell? ⟨g, i, none⟩ = some u := by
  rw [cell_of_row w g i _ t _ h]; simpa using hi
theorem Arr.free {w : World} {g : Nat} {t : TypeId} {xs : List Value} (h : Arr w g t xs) (i : Nat) : w.frozen? ⟨g, i, none⟩ = false := frozen_of_row w g i _ t h
theorem Arr.set {w : World} {g : Nat} {t : TypeId} {xs : List Value} (h : Arr w g t xs) (i : Nat) (u : Value) : Arr (w.setCell ⟨g, i, none⟩ u) g t (xs.set i u) := by
  have := heap_setCell_same w g i _ t u h
  unfold Arr
  rw [this, List.setIfInBounds_toArray]
theorem Arr.kept {S : List Nat} {w w' : World} {g : Nat} {t : TypeId} {xs : List Value} (h : Arr w g t xs) (hk : Kept S w w') (hn : g ∉ S) : Arr w' g t xs := hk.heap h hn
theorem Arr.lt {w : World} {g : Nat} {t : TypeId} {xs : List Value} (h : Arr w g t xs) : g < w.heap.size := lt_of_block h
theorem Arr.blk {w : World} {g : Nat} {t : TypeId} {xs : List Value} (h : Arr w g t xs) : Blk w g xs := .of_block h
/-- 'a[i]' of an array by value, elements of one cell. -/
theorem run_index_arr {P : Program} (t e : TypeId) (n : Nat) (xs : List Value) (k : IntKind) (i : Nat) (u : Value) (w : World) (h : P.underlying t = some (.array n e)) (hs : (P.info? e).map (·.size) = some 1)
    (ha : (isAgg e).run P w = .ok false w) (hl : xs.length = n) (hi : xs[i]? = some u) :
    (Instr.index t (.agg xs.toArray) (.int k i)).run P w = .ok u w := by
  have hlt := (List.getElem?_eq_some_iff.1 hi).1
  cases hq : P.info? e with
  | none => simp [hq] at hs
  | some j =>
    have hj : j.size = 1 := by simpa [hq] using hs
    have hin : i < n := by omega
    simp [Instr.index, run_underlying h, asIntOf, sizeOf, typeInfo, hq, hj, go_sem, ha, hi, hin]
end Go.Proofs.Ytodjfgdolegfpaa
