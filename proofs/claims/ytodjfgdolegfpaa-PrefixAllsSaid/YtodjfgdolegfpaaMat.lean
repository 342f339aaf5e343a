/-
  Slices of slices of ints, that can be read.
-/
import Derived.Test.YtodjfgdolegfpaaLibE
namespace Go.Proofs.Ytodjfgdolegfpaa
open Go.RowKit
set_option linter.unusedVariables false
set_option linter.unusedSimpArgs false

/-- What can be seen stays, if only new blocks turn. -/
theorem Sees.keptF {S : List Nat} {w w' : World} {size : Nat} {a : Option Addr} {n : Nat} {xs : List Value} (h : Sees w size a n xs) (hk : Kept S w w') (hS : Fresh w.heap.size S) : Sees w' size a n xs := by
  refine ⟨h.1, fun j u hu => ?_⟩
  obtain ⟨b, off, he, hc⟩ := h.2 j u hu
  refine ⟨b, off, he, hk.cellOf hc fun hm => ?_⟩
  have h1 := hS b hm
  have h2 : b < w.heap.size := World.block_lt_of_cell? w _ hc
  omega
/-- What can be seen stays, if other blocks than where its cells lie turn. -/
theorem Sees.keptB {S : List Nat} {w w' : World} {size : Nat} {a : Option Addr} {n : Nat} {xs : List Value} (h : Sees w size a n xs) (hk : Kept S w w') (hS : 0 < xs.length → Apart (footA a) S) : Sees w' size a n xs := by
  rcases Nat.eq_zero_or_pos xs.length with h0 | h0
  · exact ⟨h.1, fun j u hu => by have := (List.getElem?_eq_some_iff.1 hu).1; omega⟩
  · exact h.kept hk (hS h0)
/-- The slice values vs show the rows. -/
def RowsM (w : World) (vs : List Value) (rows : List (List Value)) : Prop :=
  vs.length = rows.length ∧ ∀ (i : Nat) (u : Value) (r : List Value), vs[i]? = some u → rows[i]? = some r → ∃ b c, u = .slice b r.length c ∧ Sees w 1 b r.length r ∧ r.length ≤ c ∧ c ≤ maxLen
/-- The slice (a, n) of slices shows the rows. -/
def SeesM (w : World) (a : Option Addr) (n : Nat) (rows : List (List Value)) : Prop := ∃ vs, Sees w 1 a n vs ∧ RowsM w vs rows
theorem RowsM.keptF {S : List Nat} {w w' : World} {vs : List Value} {rows : List (List Value)} (h : RowsM w vs rows) (hk : Kept S w w') (hS : Fresh w.heap.size S) : RowsM w' vs rows :=
  ⟨h.1, fun i u r h1 h2 => by obtain ⟨b, c, h3, h4, h5⟩ := h.2 i u r h1 h2; exact ⟨b, c, h3, h4.keptF hk hS, h5⟩⟩
theorem RowsM.kept0 {w w' : World} {vs : List Value} {rows : List (List Value)} (h : RowsM w vs rows) (hk : Kept [] w w') : RowsM w' vs rows := h.keptF hk (by simp [Fresh])
theorem SeesM.keptF {S : List Nat} {w w' : World} {a : Option Addr} {n : Nat} {rows : List (List Value)} (h : SeesM w a n rows) (hk : Kept S w w') (hS : Fresh w.heap.size S) : SeesM w' a n rows := by
  obtain ⟨vs, h1, h2⟩ := h
  exact ⟨vs, h1.keptF hk hS, h2.keptF hk hS⟩
theorem SeesM.kept0 {w w' : World} {a : Option Addr} {n : Nat} {rows : List (List Value)} (h : SeesM w a n rows) (hk : Kept [] w w') : SeesM w' a n rows := h.keptF hk (by simp [Fresh])
theorem SeesM.len {w : World} {a : Option Addr} {n : Nat} {rows : List (List Value)} (h : SeesM w a n rows) : rows.length = n := by
  obtain ⟨vs, h1, h2⟩ := h
  have := h1.1; have := h2.1; omega
/-- An element: its cell, and what it shows. -/
theorem SeesM.at {w : World} {a : Option Addr} {n : Nat} {rows : List (List Value)} (h : SeesM w a n rows) (i : Nat) (r : List Value) (hi : rows[i]? = some r) :
    ∃ b off ar c, a = some ⟨b, off, none⟩ ∧ w.cell? ⟨b, off + i, none⟩ = some (.slice ar r.length c) ∧ Sees w 1 ar r.length r ∧ r.length ≤ c ∧ c ≤ maxLen := by
  obtain ⟨vs, h1, h2⟩ := h
  have hl := (List.getElem?_eq_some_iff.1 hi).1
  obtain ⟨u, hu⟩ : ∃ u, vs[i]? = some u := ⟨_, List.getElem?_eq_getElem (by rw [h2.1]; exact hl)⟩
  obtain ⟨b, off, ha, hc⟩ := h1.2 i u hu
  obtain ⟨ar, c, rfl, h3, h4, h5⟩ := h2.2 i u r hu hi
  exact ⟨b, off, ar, c, ha, hc, h3, h4, h5⟩
end Go.Proofs.Ytodjfgdolegfpaa
