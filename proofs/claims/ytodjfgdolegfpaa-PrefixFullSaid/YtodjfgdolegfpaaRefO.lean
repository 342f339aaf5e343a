/-
  The walk of kistref08.Make.
-/
import Derived.Test.YtodjfgdolegfpaaRefN
import Derived.Test.YtodjfgdolegfpaaLenD
namespace Go.Proofs.Ytodjfgdolegfpaa
open Go.RowKit
set_option linter.unusedVariables false
set_option linter.unusedSimpArgs false

/-- A weight that is at least 1. -/
def clampI (x : Int) : Int := if 1 ≤ x then x else 1
def ownN (xs : List Int) : List Nat := xs.map fun x => (clampI x).toNat
theorem clampI_pos (x : Int) : 1 ≤ clampI x := by unfold clampI; split <;> omega
theorem ownN_vals (xs : List Int) : intVals (xs.map clampI) = natVals (ownN xs) := by
  rw [natVals_int]
  congr 1
  simp only [ownN, List.map_map]
  apply List.map_congr_left
  intro x _
  have := clampI_pos x
  simp only [Function.comp]
  omega
theorem ownN_length (xs : List Int) : (ownN xs).length = xs.length := by simp [ownN]
theorem ownN_bd {xs : List Int} (h : mayL xs = true) : ∀ x ∈ ownN xs, 1 ≤ x ∧ x ≤ 1073741824 := by
  intro x hx
  obtain ⟨y, hy, rfl⟩ := List.mem_map.1 hx
  have h1 := (mayL_get h).2.2 y hy
  unfold clampI
  split <;> omega
theorem own_sum {w : List Nat} (hl : w.length ≤ 258) (h : ∀ x ∈ w, 1 ≤ x ∧ x ≤ 1073741824) : w.sum ≤ 1000000000000 := by
  have h1 := K.sum_le w 1073741824 (fun x hx => (h x hx).2)
  have h2 : w.length * 1073741824 ≤ 258 * 1073741824 := Nat.mul_le_mul_right _ hl
  omega
theorem clamp_set (xs : List Int) (i : Nat) (x : Int) (h : xs[i]? = some x) : ((xs.take i).map clampI ++ xs.drop i).set i (clampI x) = (xs.take (i + 1)).map clampI ++ xs.drop (i + 1) := by
  obtain ⟨hi, hv⟩ := List.getElem?_eq_some_iff.1 h
  have hl : ((xs.take i).map clampI).length = i := by simp; omega
  rw [List.set_append_right _ _ (by omega), hl, Nat.sub_self, List.drop_eq_getElem_cons hi, List.set_cons_zero, List.take_succ_eq_append_getElem hi, hv]
  simp
theorem clamp_at (xs : List Int) (i : Nat) (x : Int) (h : xs[i]? = some x) : ((xs.take i).map clampI ++ xs.drop i)[i]? = some x := by
  obtain ⟨hi, hv⟩ := List.getElem?_eq_some_iff.1 h
  have hl : ((xs.take i).map clampI).length = i := by simp; omega
  rw [List.getElem?_append_right (by omega), hl, Nat.sub_self, List.getElem?_drop]
  simpa using h
theorem intVals_set (l : List Int) (i : Nat) (x : Int) : intVals (l.set i x) = (intVals l).set i (.int .i64 x) := by simp [intVals, List.map_set]
theorem max_more {ls : List Nat} {m : Int} {most : Nat} (h1 : m ∈ ls.map fun n : Nat => (n : Int)) (h2 : ∀ x ∈ ls.map fun n : Nat => (n : Int), x ≤ m) : (m ≤ (most : Int)) ↔ ∀ x ∈ ls, x ≤ most := by
  constructor
  · intro h x hx
    have := h2 (x : Int) (List.mem_map.2 ⟨x, hx, rfl⟩)
    omega
  · intro h
    obtain ⟨x, hx, rfl⟩ := List.mem_map.1 h1
    have := h x hx
    omega
/-- Make's answer: the lengths, or none. -/
def mostOk (most : Int) : Bool := decide (12 ≤ most ∧ most ≤ 20)

/-- The weights are clamped. -/
def ClampI (w0 : World) (xs : List Int) (go cO : Nat) (g : Nat) (v : Value) (wr : World) : Prop :=
  ∃ i : Nat, g = xs.length - i ∧ i ≤ xs.length ∧ v = .int .i64 (i : Nat) ∧ Hid (Row wr 3 (.slice (some ⟨go, 0, none⟩) xs.length cO) (intVals ((xs.take i).map clampI ++ xs.drop i))) ∧ Hid (Kept [] w0 wr)
/-- A try was made. -/
def TryI (w0 : World) (most N : Nat) (ls : List Nat) (go cO : Nat) (g : Nat) (v8 v9 : Value) (wr : World) : Prop :=
  ∃ (k c : Nat) (wc lc : List Nat) (a : Option Addr) (cA : Nat), k = g ∧ Hid (K.MadeN most k wc ls) ∧ c + k ≤ 39 ∧ v9 = .int .i64 (c : Nat) ∧ v8 = .slice a N cA ∧ Hid (wc.length = N ∧ lc.length = N) ∧ Hid (∀ x ∈ wc, 1 ≤ x ∧ x ≤ 1073741824) ∧ Hid (K.Told wc lc) ∧
    Hid (Row wr 3 (.slice (some ⟨go, 0, none⟩) N cO) (natVals wc)) ∧ Hid (Row wr 3 (.slice a N cA) (natVals lc)) ∧ Hid (Kept [] w0 wr) ∧ Hid (Fresh w0.heap.size (footA a))
def HalveI (w0 : World) (N : Nat) (wc : List Nat) (go cO : Nat) (g : Nat) (v : Value) (wr : World) : Prop :=
  ∃ i : Nat, g = N - i ∧ i ≤ N ∧ v = .int .i64 (i : Nat) ∧ Hid (Row wr 3 (.slice (some ⟨go, 0, none⟩) N cO) (natVals (K.halve (wc.take i) ++ wc.drop i))) ∧ Hid (Kept [] w0 wr)

end Go.Proofs.Ytodjfgdolegfpaa
