/-
  The walks of symbols' may, moved and Of.
-/
import Derived.Test.YtodjfgdolegfpaaLibE
import Derived.Test.YtodjfgdolegfpaaWriter
import Derived.Deep.WholeRow
import Derived.Deep.RegionHeld3
namespace Go.Proofs.Ytodjfgdolegfpaa
open Go.RowKit
set_option linter.unusedVariables false
set_option linter.unusedSimpArgs false

theorem byte_get (s : ByteArray) (i : Nat) (h : i < s.size) : s.data.toList.getD i 0 = s[i]'h := by
  have hl : i < s.data.toList.length := by rw [Array.length_toList]; exact h
  rw [List.getD, List.getElem?_eq_getElem hl]
  rfl
theorem byte_take (s : ByteArray) (i : Nat) (h : i < s.size) : s.data.toList.take (i + 1) = s.data.toList.take i ++ [s[i]'h] := by
  have hl : i < s.data.toList.length := by rw [Array.length_toList]; exact h
  rw [List.take_succ_eq_append_getElem hl]
  rfl
theorem byte_len (s : ByteArray) : s.data.toList.length = s.size := by rw [Array.length_toList]; rfl

/-- In may's loop: i bytes are above the one ahead. -/
def SMayI (s : ByteArray) (w0 : World) (k : Nat) (c : Value) (w : World) : Prop :=
  ∃ i, 1 ≤ i ∧ i ≤ s.size + 1 ∧ k = s.size + 1 - i ∧ c = .int .i64 (i : Nat) ∧ (∀ j, j + 1 < i → j + 1 < s.size → s.data.toList.getD j 0 < s.data.toList.getD (j + 1) 0) ∧ Kept [] w0 w

theorem u8s_get (l : List UInt8) (p : Nat) (h : p < l.length) : (u8s l)[p]? = some (.int .u8 ((l.getD p 0).toNat : Nat)) := by
  simp [u8s, List.getD, List.getElem?_eq_getElem h]
theorem u8s_length (l : List UInt8) : (u8s l).length = l.length := by simp [u8s]
theorem u8s_one (l : List UInt8) : ∀ v ∈ u8s l, v.oneCell' = true := by
  intro v hv
  simp only [u8s, List.mem_map] at hv
  obtain ⟨b, -, rfl⟩ := hv
  rfl
theorem Try.sizeU8 : (Try.prog.info? 5).map (·.size) = some 1 := by kernel_rfl

/-- The 256 marks of a text's bytes. -/
def marks (l : List UInt8) : List Value := (List.range 256).map fun b => .bool (decide (UInt8.ofNat b ∈ l))
theorem marks_length (l : List UInt8) : (marks l).length = 256 := by simp [marks]
theorem marks_nil : (Array.replicate 256 (Value.bool false)) = (marks []).toArray := by
  apply Array.ext
  · simp [marks]
  · intro i h1 h2
    simp [marks]
theorem marks_get (l : List UInt8) (b : Nat) (h : b < 256) : (marks l)[b]? = some (.bool (decide (UInt8.ofNat b ∈ l))) := by
  simp [marks, List.getElem?_range h]
theorem marks_snoc (l : List UInt8) (b : UInt8) : (marks l).set b.toNat (.bool true) = marks (l ++ [b]) := by
  apply List.ext_getElem?
  intro i
  rw [List.getElem?_set]
  have hb := UInt8.toNat_lt b
  by_cases hi : i < 256
  · rw [marks_get _ _ hi, marks_get _ _ hi, marks_length]
    by_cases hbi : b.toNat = i
    · rw [if_pos hbi, if_pos (by omega)]
      subst hbi
      simp
    · rw [if_neg hbi]
      have : ¬ UInt8.ofNat i = b := fun h => hbi (by rw [← h, UInt8.toNat_ofNat']; omega)
      simp [this]
  · have e1 : (marks l)[i]? = none := List.getElem?_eq_none (by rw [marks_length]; omega)
    have e2 : (marks (l ++ [b]))[i]? = none := List.getElem?_eq_none (by rw [marks_length]; omega)
    rw [e1, e2, if_neg (by omega)]

/-- In Of's first loop: i bytes are marked. -/
def SOfA (s : ByteArray) (w0 : World) (g : Nat) (k : Nat) (c : Value) (w : World) : Prop :=
  ∃ i, i ≤ s.size ∧ k = s.size - i ∧ c = .int .i64 (i : Nat) ∧ Blk w g (marks (s.data.toList.take i)) ∧ Kept [] w0 w
/-- In its second: the marks of n bytes are seen. -/
def SOfB (s : ByteArray) (w0 : World) (g : Nat) (k : Nat) (v c : Value) (w : World) : Prop :=
  ∃ n, n ≤ 256 ∧ k = 256 - n ∧ c = .int .i64 (n : Nat) ∧ Row w 5 v (u8s (K.usesTo s.data.toList n)) ∧ Blk w g (marks s.data.toList) ∧ Kept [] w0 w ∧ Fresh w0.heap.size (foot v) ∧ g ∉ foot v

end Go.Proofs.Ytodjfgdolegfpaa
