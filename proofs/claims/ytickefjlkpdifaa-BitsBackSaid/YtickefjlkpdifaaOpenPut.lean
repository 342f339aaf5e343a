/-
  The argument of BitsWrites and BitsBack, opened: a slice of puts.
-/
import Derived.Test.YtickefjlkpdifaaOpen
import Derived.Test.YtickefjlkpdifaaBitsWrites
namespace Go.Proofs.Ytickefjlkpdifaa
open Go.ChangeShapes Go.WideShapes Go.ChangeAt Go.RowKit Go.Deep
set_option linter.unusedVariables false
set_option linter.unusedSimpArgs false

theorem see_puts {H : Type} {enc : TypeId × Value → H} {W : World} {a : Option Addr} {len cap : Nat} {d : DataW H} {p : List MemPlace}
    (h : DataW.Trod enc Try.prog W 0 (fun _ => true) true 22 (.slice a len cap) d p) :
    ∃ ps : List (Nat × Int), Sees W 2 a len (putVals ps) ∧ ps.length = len ∧ len ≤ cap ∧ cap ≤ maxLen ∧ ∀ p ∈ ps, p.1 < 18446744073709551616 ∧ -9223372036854775808 ≤ p.2 ∧ p.2 ≤ 9223372036854775807 :=
  see_gen 2 (fun p : Nat × Int => [Value.int .u64 p.1, .int .i64 p.2]) (fun p => p.1 < 18446744073709551616 ∧ -9223372036854775808 ≤ p.2 ∧ p.2 ≤ 9223372036854775807) Try.underlying22 (by kernel_rfl) (by decide) (fun _ => rfl)
    (fun n cs D hr => by
      obtain ⟨y0, y1, m, -, hl, hy0, hy1⟩ := trod_struct2 Try.underlying31 hr
      have hl2 : cs.length = 2 := hl.trans (by kernel_rfl)
      obtain ⟨c0, c1, rfl⟩ : ∃ c0 c1, cs = [c0, c1] := by
        match cs, hl2 with
        | [c0, c1], _ => exact ⟨c0, c1, rfl⟩
      obtain ⟨x, h1, -, w1⟩ := DataW.trod_int Try.underlying29 hy0
      obtain ⟨y, h2, -, w2⟩ := DataW.trod_int Try.underlying3 hy1
      have e1 : Try.prog.cellsOf 29 = 1 := by kernel_rfl
      have e2 : Try.prog.cellsOf 3 = 1 := by kernel_rfl
      simp [e1] at h1
      simp [e2] at h2
      subst h1 h2
      have r1 := range_of_u64 w1
      obtain ⟨v, rfl⟩ := Int.eq_ofNat_of_zero_le r1.1
      exact ⟨(v, y), rfl, by have := r1.2; omega, range_of_i64 w2⟩) h
end Go.Proofs.Ytickefjlkpdifaa
