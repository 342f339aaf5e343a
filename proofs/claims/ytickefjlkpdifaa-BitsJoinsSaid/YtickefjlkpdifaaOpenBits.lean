/-
  A slice of pieces, opened.
-/
import Derived.Test.YtickefjlkpdifaaOpenW
import Derived.Test.YtickefjlkpdifaaJoin
namespace Go.Proofs.Ytickefjlkpdifaa
open Go.ChangeShapes Go.WideShapes Go.ChangeAt Go.RowKit Go.Deep
set_option linter.unusedVariables false
set_option linter.unusedSimpArgs false

theorem see_bits {H : Type} {enc : TypeId × Value → H} {W : World} {a : Option Addr} {len cap : Nat} {d : DataW H} {p : List MemPlace}
    (h : DataW.Trod enc Try.prog W 0 (fun _ => true) true 61 (.slice a len cap) d p) (hwt : ∀ m ∈ d.weights Try.prog 61, m ≤ reachBytes) :
    ∃ ps : List (ByteArray × Int), Sees W 2 a len (bitsVals ps) ∧ ps.length = len ∧ len ≤ cap ∧ cap ≤ maxLen ∧ len ≤ 140737488351232 ∧ ∀ p ∈ ps, p.1.size ≤ 140737488351232 ∧ -9223372036854775808 ≤ p.2 ∧ p.2 ≤ 9223372036854775807 := by
  obtain ⟨ps, h1, h2, h3, h4, h5, h6⟩ := see_genW 2 (fun p : ByteArray × Int => [Value.string p.1, .int .i64 p.2]) (fun p => p.1.size ≤ 140737488351232 ∧ -9223372036854775808 ≤ p.2 ∧ p.2 ≤ 9223372036854775807) Try.underlying61 (by kernel_rfl) (by decide) (fun _ => rfl)
    (fun n cs D hr hw => by
      obtain ⟨y0, y1, m, rfl, hl, hy0, hy1⟩ := trod_struct2 Try.underlying55 hr
      have hl2 : cs.length = 2 := hl.trans (by kernel_rfl)
      obtain ⟨c0, c1, rfl⟩ : ∃ c0 c1, cs = [c0, c1] := by
        match cs, hl2 with
        | [c0, c1], _ => exact ⟨c0, c1, rfl⟩
      obtain ⟨x, h1, hx, -⟩ := DataW.trod_string Try.underlying9 hy0
      obtain ⟨y, h2, -, w2⟩ := DataW.trod_int Try.underlying3 hy1
      have e1 : Try.prog.cellsOf 9 = 1 := by kernel_rfl
      have e2 : Try.prog.cellsOf 3 = 1 := by kernel_rfl
      simp [e1] at h1
      simp [e2] at h2
      subst h1 h2
      have hw0 := hw x.data.toList.length (by simp [DataW.weights, DataW.weightsEach, Try.underlying55, hx])
      rw [toList_length] at hw0
      exact ⟨(x, y), rfl, by simpa [reachBytes] using hw0, range_of_i64 w2⟩) hwt h
  refine ⟨ps, h1, h2, h3, h4, ?_, h6⟩
  have e3 : Try.prog.bytesOf 55 = 24 := by kernel_rfl
  rw [e3] at h5
  simp only [reachBytes] at h5
  omega
end Go.Proofs.Ytickefjlkpdifaa
