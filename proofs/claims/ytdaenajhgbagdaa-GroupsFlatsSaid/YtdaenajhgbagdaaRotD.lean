/-
  The walk of rotate.Order's own function again: ranks made anew out of the order.
-/
import Derived.Test.YtdaenajhgbagdaaRotC
namespace Go.Proofs.Ytdaenajhgbagdaa
open Go.RowKit Go.Sort
set_option linter.unusedVariables false
set_option linter.unusedSimpArgs false

theorem make_ints (n : Nat) (hn : n ≤ 1000000000) : ∃ Z : Array Value, Z.toList = List.replicate n (.int .i64 0) ∧ ∀ W : World, (Instr.makeSlice 30 (.int .i64 n) (.int .i64 n)).run Try.prog W = .ok (.slice (some ⟨W.heap.size, 0, none⟩) n n) (W.alloc (.cells Z 3)) := by
  obtain ⟨i, hi, h0, h1, h2⟩ := info_parts Try.infoInt
  refine ⟨madeCells (Value.int .i64 0).cells (n * i.size), ?_, fun W => ?_⟩
  · rw [h1, show (Value.int .i64 0).cells = #[Value.int .i64 0] from rfl, Nat.mul_one, toList_madeCells_one]
  · have := run_make (P := Try.prog) W 30 3 i (.int .i64 0) Try.underlying30 hi h0 .i64 .i64 n n (by omega) (by omega) (by rw [h2]; omega) (by omega)
    simpa using this
theorem Row.made (W : World) (n : Nat) (Z : Array Value) (hZ : Z.toList = List.replicate n (.int .i64 0)) (hn : n ≤ 1000000000) : Row (W.alloc (.cells Z 3)) 3 (.slice (some ⟨W.heap.size, 0, none⟩) n n) (List.replicate n (.int .i64 0)) := by
  have hs : Z.size = n := by rw [← Array.length_toList, hZ]; simp
  refine ⟨by simp, .inr ⟨W.heap.size, n, _, by simp, Nat.zero_le _, heap_alloc_new W _, by simp, by simp only [maxLen]; omega, by simp [hs], ?_⟩⟩
  rw [hZ]
  simp

/-- The new ranks, in a block of their own. -/
def AgainPost (n : Nat) (l : List Nat) (w : World) (e : Ending) (w' : World) : Prop :=
  ∃ h, e = .returned (.slice (some ⟨h, 0, none⟩) n n) ∧ Row w' 3 (.slice (some ⟨h, 0, none⟩) n n) (natVals l) ∧ Kept [] w w' ∧ w.heap.size ≤ h
def AgainI (w0 : World) (h n : Nat) (rank : List Nat) (by_ : Nat) (L : List Nat) (k : Nat) (v : Value) (w : World) : Prop :=
  ∃ i, 1 ≤ i ∧ i ≤ n ∧ k = n - i ∧ v = .int .i64 (i : Nat) ∧ Row w 3 (.slice (some ⟨h, 0, none⟩) n n) (natVals (K.again n rank by_ L (i - 1))) ∧ Kept [h] w0 w

end Go.Proofs.Ytdaenajhgbagdaa
