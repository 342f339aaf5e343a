/-
  The walks of symbols' may, moved and Of. The walks of symbols' Front and Back.
-/
import Derived.Test.YtdaenajhgbagdaaWriteA
import Derived.Deep.WholeRow
import Derived.Deep.RegionHeld3
namespace Go.Proofs.Ytdaenajhgbagdaa
open Go.RowKit
set_option linter.unusedVariables false
set_option linter.unusedSimpArgs false

theorem byte_get (s : ByteArray) (i : Nat) (h : i < s.size) : s.data.toList.getD i 0 = s[i]'h := by
  have hl : i < s.data.toList.length := by rw [Array.length_toList]; exact h
  rw [List.getD, List.getElem?_eq_getElem hl]
  rfl
theorem byte_take (s : ByteArray) (i : Nat) (h : i < s.size) : s.data.toList.take (i + 1) = s.data.toList.take i ++ [s[i]'h] := by
  have hl : i < s.data.toList.length := by rw [Array.length_toList]; exact h
  rw [List.take_succ_eq_append_getElem hl]
  rfl
theorem byte_len (s : ByteArray) : s.data.toList.length = s.size := by rw [Array.length_toList]; rfl

/-- In may's loop: i bytes are above the one ahead. -/
def SMayI (s : ByteArray) (w0 : World) (k : Nat) (c : Value) (w : World) : Prop :=
  ∃ i, 1 ≤ i ∧ i ≤ s.size + 1 ∧ k = s.size + 1 - i ∧ c = .int .i64 (i : Nat) ∧ (∀ j, j + 1 < i → j + 1 < s.size → s.data.toList.getD j 0 < s.data.toList.getD (j + 1) 0) ∧ Kept [] w0 w

theorem u8s_get (l : List UInt8) (p : Nat) (h : p < l.length) : (u8s l)[p]? = some (.int .u8 ((l.getD p 0).toNat : Nat)) := by
  simp [u8s, List.getD, List.getElem?_eq_getElem h]
theorem u8s_length (l : List UInt8) : (u8s l).length = l.length := by simp [u8s]
theorem u8s_one (l : List UInt8) : ∀ v ∈ u8s l, v.oneCell' = true := by
  intro v hv
  simp only [u8s, List.mem_map] at hv
  obtain ⟨b, -, rfl⟩ := hv
  rfl
theorem Try.sizeU8 : (Try.prog.info? 5).map (·.size) = some 1 := by kernel_rfl

/-- The 256 marks of a text's bytes. -/
def marks (l : List UInt8) : List Value := (List.range 256).map fun b => .bool (decide (UInt8.ofNat b ∈ l))
theorem marks_length (l : List UInt8) : (marks l).length = 256 := by simp [marks]
theorem marks_nil : (Array.replicate 256 (Value.bool false)) = (marks []).toArray := by
  apply Array.ext
  · simp [marks]
  · intro i h1 h2
    simp [marks]
theorem marks_get (l : List UInt8) (b : Nat) (h : b < 256) : (marks l)[b]? = some (.bool (decide (UInt8.ofNat b ∈ l))) := by
  simp [marks, List.getElem?_range h]
theorem marks_snoc (l : List UInt8) (b : UInt8) : (marks l).set b.toNat (.bool true) = marks (l ++ [b]) := by
  apply List.ext_getElem?
  intro i
  rw [List.getElem?_set]
  have hb := UInt8.toNat_lt b
  by_cases hi : i < 256
  · rw [marks_get _ _ hi, marks_get _ _ hi, marks_length]
    by_cases hbi : b.toNat = i
    · rw [if_pos hbi, if_pos (by omega)]
      subst hbi
      simp
    · rw [if_neg hbi]
      have : ¬ UInt8.ofNat i = b := fun h => hbi (by rw [← h, UInt8.toNat_ofNat']; omega)
      simp [this]
  · have e1 : (marks l)[i]? = none := List.getElem?_eq_none (by rw [marks_length]; omega)
    have e2 : (marks (l ++ [b]))[i]? = none := List.getElem?_eq_none (by rw [marks_length]; omega)
    rw [e1, e2, if_neg (by omega)]

/-- In Of's first loop: i bytes are marked. -/
def SOfA (s : ByteArray) (w0 : World) (g : Nat) (k : Nat) (c : Value) (w : World) : Prop :=
  ∃ i, i ≤ s.size ∧ k = s.size - i ∧ c = .int .i64 (i : Nat) ∧ Blk w g (marks (s.data.toList.take i)) ∧ Kept [] w0 w
/-- In its second: the marks of n bytes are seen. -/
def SOfB (s : ByteArray) (w0 : World) (g : Nat) (k : Nat) (v c : Value) (w : World) : Prop :=
  ∃ n, n ≤ 256 ∧ k = 256 - n ∧ c = .int .i64 (n : Nat) ∧ Row w 5 v (u8s (K.usesTo s.data.toList n)) ∧ Blk w g (marks s.data.toList) ∧ Kept [] w0 w ∧ Fresh w0.heap.size (foot v) ∧ g ∉ foot v

end Go.Proofs.Ytdaenajhgbagdaa
namespace Go.Proofs.Ytdaenajhgbagdaa
open Go.RowKit
set_option linter.unusedVariables false
set_option linter.unusedSimpArgs false

def natVals (l : List Nat) : List Value := l.map fun n : Nat => .int .i64 (n : Int)
theorem natVals_length (l : List Nat) : (natVals l).length = l.length := by simp [natVals]
theorem natVals_append (a b : List Nat) : natVals (a ++ b) = natVals a ++ natVals b := by simp [natVals]
theorem natVals_int (l : List Nat) : natVals l = intVals (l.map fun n : Nat => (n : Int)) := by simp [natVals, intVals]
/-- What a function leaves that answers a list of numbers and an error. -/
def NatsPost (p : List Nat × Nat) (w : World) (e : Ending) (w' : World) : Prop :=
  ∃ a c, e = .returned (.tuple #[.slice a p.1.length c, .int .i64 (p.2 : Nat)]) ∧ Row w' 3 (.slice a p.1.length c) (natVals p.1) ∧ Kept [] w w' ∧ Fresh w.heap.size (footA a)
theorem NatsPost.err {w w' : World} {e : Ending} {n : Nat} (he : e = .returned (.tuple #[.slice none 0 0, .int .i64 (n : Nat)])) (hk : Kept [] w w') : NatsPost ([], n) w e w' :=
  ⟨none, 0, he, Row.nil _ _, hk, by simp [Fresh, footA]⟩
theorem NatsPost.ok {w w' : World} {e : Ending} {l : List Nat} {a : Option Addr} {c : Nat} (he : e = .returned (.tuple #[.slice a l.length c, .int .i64 0])) (hr : Row w' 3 (.slice a l.length c) (natVals l)) (hk : Kept [] w w')
    (hf : Fresh w.heap.size (foot (.slice a l.length c))) : NatsPost (l, 0) w e w' :=
  ⟨a, c, he, hr, hk, by rw [← foot_slice a l.length c]; exact hf⟩
theorem Row.footA {w : World} {e : TypeId} {a : Option Addr} {n c : Nat} {xs : List Value} (h : Row w e (.slice a n c) xs) : foot (.slice a n c) = footA a := foot_slice a n c

theorem idx_at (l : List UInt8) (b : UInt8) (p : Nat) (hp : p < l.length) (hno : ∀ j, j < p → l.getD j 0 ≠ b) (heq : l.getD p 0 = b) : l.idxOf b = p := by
  have e : l = l.take p ++ l[p] :: l.drop (p + 1) := by rw [← List.drop_eq_getElem_cons hp, List.take_append_drop]
  have hb : l[p] = b := by rw [List.getD, List.getElem?_eq_getElem hp] at heq; exact heq
  have hm : b ∉ l.take p := by
    intro hm
    obtain ⟨j, hj, he⟩ := List.getElem_of_mem hm
    rw [List.length_take] at hj
    refine hno j (by omega) ?_
    rw [List.getD, List.getElem?_eq_getElem (show j < l.length by omega)]
    rw [List.getElem_take] at he
    exact he
  rw [e, List.idxOf_append, if_neg hm, List.length_take, hb, List.idxOf_cons_self]
  omega
theorem idx_none (l : List UInt8) (b : UInt8) (hno : ∀ j, j < l.length → l.getD j 0 ≠ b) : l.idxOf b = l.length := by
  apply List.idxOf_eq_length
  intro hm
  obtain ⟨j, hj, he⟩ := List.getElem_of_mem hm
  refine hno j hj ?_
  rw [List.getD, List.getElem?_eq_getElem hj]
  exact he
/-- In Front's loop: i bytes are told. -/
def SFrI (s t : ByteArray) (w0 : World) (g : Nat) (k : Nat) (v c : Value) (w : World) : Prop :=
  ∃ i li out, i ≤ s.size ∧ k = s.size - i ∧ c = .int .i64 (i : Nat) ∧ Row w 3 v (natVals out) ∧ out.length = i ∧ Blk w g (u8s li) ∧ li.length = t.size ∧
    K.front t.data.toList s.data.toList = (K.front li (s.data.toList.drop i)).map (out ++ ·) ∧ Kept [] w0 w ∧ Fresh w0.heap.size (g :: foot v) ∧ g ∉ foot v
/-- In the loop within: p places are passed. -/
def SFrJ (b : UInt8) (li : List UInt8) (w0 : World) (k : Nat) (c : Value) (w : World) : Prop :=
  ∃ p m, p ≤ li.length ∧ k = li.length - p ∧ c = .int .i64 (p : Nat) ∧ (∀ j, j < p → li.getD j 0 ≠ b) ∧ w = w0.drewN m

/-- What a function leaves that answers a text and an error. -/
def TextPost (p : List UInt8 × Nat) (w : World) (e : Ending) (w' : World) : Prop :=
  e = .returned (.tuple #[.string ⟨p.1.toArray⟩, .int .i64 (p.2 : Nat)]) ∧ Kept [] w w'
/-- In Back's loop: i places are read. -/
def SBkI (xs : List Int) (t : ByteArray) (w0 : World) (g : Nat) (k : Nat) (v c : Value) (w : World) : Prop :=
  ∃ i li out, i ≤ xs.length ∧ k = xs.length - i ∧ c = .int .i64 (i : Nat) ∧ Row w 5 v (u8s out) ∧ out.length = i ∧ Blk w g (u8s li) ∧ li.length = t.size ∧
    K.back t.data.toList xs = (K.back li (xs.drop i)).map (out ++ ·) ∧ Kept [] w0 w ∧ Fresh w0.heap.size (g :: foot v) ∧ g ∉ foot v

end Go.Proofs.Ytdaenajhgbagdaa
