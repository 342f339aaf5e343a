/-
  An array of three ints by value, opened.
-/
import Derived.Test.YtodjfgdolegfpaaOpen
import Derived.Laws.IdiomArrays
namespace Go.Proofs.Ytodjfgdolegfpaa
open Go.ChangeShapes Go.WideShapes Go.ChangeAt Go.RowKit Go.Deep Go.Joins
set_option linter.unusedVariables false
set_option linter.unusedSimpArgs false

theorem see_arr3 {H : Type} {enc : TypeId × Value → H} {W : World} {base : Nat} {v : Value} {d : DataW H} {p : List MemPlace} (hv : Value.okWide Try.prog W .any base 43 v)
    (h : DataW.Trod enc Try.prog W 0 (fun _ => true) true 43 v d p) :
    ∃ a b c : Int, v = .agg #[.int .i64 a, .int .i64 b, .int .i64 c] ∧ (Lit.int .i64 a).wf = true ∧ (Lit.int .i64 b).wf = true ∧ (Lit.int .i64 c).wf = true := by
  have e3 : Try.prog.cellsOf 43 = 3 := by kernel_rfl
  simp only [Value.okWide, Try.underlying43] at hv
  obtain ⟨cs, rfl, hsz, -⟩ := hv
  obtain ⟨c0, c1, c2, rfl⟩ := array3 (hsz.trans e3)
  obtain ⟨fuel, hf⟩ := h
  obtain ⟨y0, y1, y2, n, -, h0, h1, h2⟩ := trod_array3 Try.underlying43 (by kernel_rfl) hf
  obtain ⟨a, ha, -, wa⟩ := DataW.trod_int Try.underlying3 h0
  obtain ⟨b, hb, -, wb⟩ := DataW.trod_int Try.underlying3 h1
  obtain ⟨c, hc, -, wc⟩ := DataW.trod_int Try.underlying3 h2
  simp at ha hb hc
  subst ha hb hc
  exact ⟨a, b, c, rfl, wa, wb, wc⟩
end Go.Proofs.Ytodjfgdolegfpaa
