/-
  A slice of ints, opened, its length bounded by its bytes; a slice without an array has no capacity.
-/
import Derived.Test.YtcjkjknahalpnaaOpenInty
namespace Go.Proofs.Ytcjkjknahalpnaa
open Go.ChangeShapes Go.WideShapes Go.ChangeAt Go.RowKit Go.Deep
set_option linter.unusedVariables false
set_option linter.unusedSimpArgs false

theorem trod_nil {H : Type} {enc : TypeId × Value → H} {W : World} {t e : TypeId} {a : Option Addr} {len cap : Nat} {d : DataW H} {p : List MemPlace} (ht : Try.prog.underlying t = some (.slice e))
    (h : DataW.Trod enc Try.prog W 0 (fun _ => true) true t (.slice a len cap) d p) : a = none → cap = 0 := by
  obtain ⟨fuel, hr⟩ := h
  simp only [Value.cells] at hr
  rcases open_slice ht hr with ⟨hcs, -⟩ | ⟨ad, l, c, m, n, D, Pl, hcs, -, hl, hm, hmm, hdx, hx⟩
  · simp only [List.cons.injEq, Value.slice.injEq, and_true] at hcs
    exact fun _ => hcs.2.2
  · simp only [List.cons.injEq, Value.slice.injEq, and_true] at hcs
    intro h0
    rw [h0] at hcs
    exact absurd hcs.1 (by simp)
theorem see_intn {H : Type} {enc : TypeId × Value → H} {W : World} {a : Option Addr} {len cap : Nat} {d : DataW H} {p : List MemPlace}
    (h : DataW.Trod enc Try.prog W 0 (fun _ => true) true 22 (.slice a len cap) d p) (hwt : ∀ m ∈ d.weights Try.prog 22, m ≤ reachBytes) :
    ∃ xs : List Int, Sees W 1 a len (xs.map (Value.int .i64)) ∧ xs.length = len ∧ len ≤ cap ∧ cap ≤ maxLen ∧ len ≤ 17592186043904 ∧ (∀ x ∈ xs, -9223372036854775808 ≤ x ∧ x ≤ 9223372036854775807) ∧ (a = none → cap = 0) := by
  obtain ⟨xs, h1, h2, h3, h4, h5, h6⟩ := see_inty h hwt
  exact ⟨xs, h1, h2, h3, h4, h5, h6, trod_nil Try.underlying22 h⟩
end Go.Proofs.Ytcjkjknahalpnaa
