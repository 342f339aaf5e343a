/-
  A slice of ints, opened, its length bounded by its bytes.
-/
import Derived.Test.YtcjkjknahalpnaaOpenW
namespace Go.Proofs.Ytcjkjknahalpnaa
open Go.ChangeShapes Go.WideShapes Go.ChangeAt Go.RowKit Go.Deep
set_option linter.unusedVariables false
set_option linter.unusedSimpArgs false

theorem see_inty {H : Type} {enc : TypeId × Value → H} {W : World} {a : Option Addr} {len cap : Nat} {d : DataW H} {p : List MemPlace}
    (h : DataW.Trod enc Try.prog W 0 (fun _ => true) true 22 (.slice a len cap) d p) (hwt : ∀ m ∈ d.weights Try.prog 22, m ≤ reachBytes) :
    ∃ xs : List Int, Sees W 1 a len (xs.map (Value.int .i64)) ∧ xs.length = len ∧ len ≤ cap ∧ cap ≤ maxLen ∧ len ≤ 17592186043904 ∧ ∀ x ∈ xs, -9223372036854775808 ≤ x ∧ x ≤ 9223372036854775807 := by
  obtain ⟨xs, h1, h2, h3, h4, h5, h6⟩ := see_genW 1 (fun x : Int => [Value.int .i64 x]) (fun x => -9223372036854775808 ≤ x ∧ x ≤ 9223372036854775807) Try.underlying22 (by kernel_rfl) (by decide) (fun _ => rfl)
    (fun n cs D hr _ => by
      obtain ⟨x, rfl, -, hw⟩ := DataW.trod_int Try.underlying3 hr
      exact ⟨x, rfl, range_of_i64 hw⟩) hwt h
  rw [flatMap_one] at h1
  refine ⟨xs, h1, h2, h3, h4, ?_, h6⟩
  have e3 : Try.prog.bytesOf 3 = 8 := by kernel_rfl
  rw [e3] at h5
  simp only [reachBytes] at h5
  omega
end Go.Proofs.Ytcjkjknahalpnaa
