/-
  The walk of kistref08.grown.
-/
import Derived.Test.YtodjfgdolegfpaaRefM
import Derived.Test.YtodjfgdolegfpaaHufAll
import Derived.Test.YtodjfgdolegfpaaLibE
import Derived.Test.YtodjfgdolegfpaaLibG
import Derived.Deep.RegionHeld3
namespace Go.Proofs.Ytodjfgdolegfpaa
open Go.RowKit
set_option linter.unusedVariables false
set_option linter.unusedSimpArgs false

/-- What a function leaves that tells a list of numbers. -/
def LensPost (l : List Nat) (w : World) (e : Ending) (w' : World) : Prop :=
  ∃ a c, e = .returned (.slice a l.length c) ∧ Row w' 3 (.slice a l.length c) (natVals l) ∧ Kept [] w w' ∧ Fresh w.heap.size (footA a)

theorem natVals_get {l : List Nat} {i x : Nat} (h : l[i]? = some x) : (natVals l)[i]? = some (.int .i64 (x : Int)) := by simp [natVals, h]
theorem natVals_set (l : List Nat) (i x : Nat) : natVals (l.set i x) = (natVals l).set i (.int .i64 (x : Int)) := by simp [natVals, List.map_set]
theorem Row.toN {w : World} {e : TypeId} {g n c : Nat} {xs : List Value} (h : Row w e (.slice (some ⟨g, 0, none⟩) n c) xs) : RowN w e 1 (.slice (some ⟨g, 0, none⟩) n c) n xs := by
  have hl := h.len
  subst hl
  exact h
theorem Row.ofN {w : World} {e : TypeId} {g n c : Nat} {xs : List Value} (h : RowN w e 1 (.slice (some ⟨g, 0, none⟩) n c) n xs) : Row w e (.slice (some ⟨g, 0, none⟩) n c) xs := by
  have hl := h.1
  rw [Nat.mul_one] at hl
  subst hl
  exact h
def GrowI (w0 : World) (ws : List Nat) (g : Nat) (v3 v4 v5 : Value) (wr : World) : Prop :=
  ∃ k m j gw cW go cO, g = ws.length - j ∧ j ≤ ws.length ∧ 1 ≤ j ∧ Hid (j = k + 1) ∧ Hid (m = ws.length + k) ∧ m ≤ 1000 ∧ 1 ≤ m ∧ v5 = .int .i64 (j : Nat) ∧ v3 = .slice (some ⟨gw, 0, none⟩) m cW ∧ v4 = .slice (some ⟨go, 0, none⟩) m cO ∧
    Hid (Row wr 3 (.slice (some ⟨gw, 0, none⟩) m cW) (natVals (K.hrun ws k).1)) ∧ Hid (Row wr 3 (.slice (some ⟨go, 0, none⟩) m cO) (natVals (K.hrun ws k).2)) ∧
    Hid (Kept [] w0 wr) ∧ Hid (gw ≠ go ∧ w0.heap.size ≤ gw ∧ w0.heap.size ≤ go)

/-- The depth of symbol i is counted: d steps are left. -/
def DepI (w0 : World) (over ls : List Nat) (n m i gr go cO r : Nat) (d : Nat) (v11 : Value) (wr : World) : Prop :=
  ∃ cur t, Hid (K.Up over cur d r) ∧ Hid (d ≤ ls.getD i 0) ∧ v11 = .int .i64 (t : Nat) ∧ Hid (t = over.getD cur 0) ∧ Hid (Row wr 3 (.slice (some ⟨gr, 0, none⟩) n n) (natVals (K.outS ls n i (ls.getD i 0 - d)))) ∧
    Hid (Row wr 3 (.slice (some ⟨go, 0, none⟩) m cO) (natVals over)) ∧ Hid (Kept [] w0 wr)
end Go.Proofs.Ytodjfgdolegfpaa
