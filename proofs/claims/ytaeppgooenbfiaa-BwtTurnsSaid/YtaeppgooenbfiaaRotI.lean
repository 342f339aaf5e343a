/-
  The walk of rotate.Cmp, whatever is asked.
-/
import Derived.Test.YtaeppgooenbfiaaRotH
namespace Go.Proofs.Ytaeppgooenbfiaa
open Go.RowKit
set_option linter.unusedVariables false
set_option linter.unusedSimpArgs false

/-- Cmp's answer. -/
def cmpA (s : ByteArray) (i j : Int) : Int × Nat := if i < 0 ∨ j < 0 ∨ (s.size : Int) ≤ i ∨ (s.size : Int) ≤ j then (0, 2) else (sgnR (K.fS s.data.toList) s.size i.toNat j.toNat, 0)
theorem cmp_any (s : ByteArray) (i j : Int) (w : World) (hs : s.size ≤ 1000000) : Calls Try.prog 22 #[.string s, .int .i64 i, .int .i64 j] w fun e w' =>
    e = .returned (.tuple #[.int .i64 (cmpA s i j).1, .int .i64 ((cmpA s i j).2 : Nat)]) ∧ Kept [] w w' := by
  by_cases hin : i < 0 ∨ j < 0 ∨ (s.size : Int) ≤ i ∨ (s.size : Int) ≤ j
  · have hA : cmpA s i j = (0, 2) := by unfold cmpA; rw [if_pos hin]
    rw [hA]
    clear hA
    by_cases h1 : i < 0
    · have g1 : decide (i < 0) = true := decide_eq_true h1
      clear hin
      go_enter Try.func22, Try.ntmps22
      go_wp2_with fail
      go_ret2
      exact ⟨rfl, Kept.refl _ _⟩
    have g1 : decide (i < 0) = false := decide_eq_false h1
    by_cases h2 : j < 0
    · have g2 : decide (j < 0) = true := decide_eq_true h2
      clear hin
      go_enter Try.func22, Try.ntmps22
      go_wp2_with fail
      go_ret2
      exact ⟨rfl, Kept.refl _ _⟩
    have g2 : decide (j < 0) = false := decide_eq_false h2
    by_cases h3 : (s.size : Int) ≤ i
    · have g3 : decide ((s.size : Int) ≤ i) = true := decide_eq_true h3
      clear hin
      go_enter Try.func22, Try.ntmps22
      go_wp2_with fail
      go_ret2
      exact ⟨rfl, Kept.refl _ _⟩
    have g3 : decide ((s.size : Int) ≤ i) = false := decide_eq_false h3
    have h4 : (s.size : Int) ≤ j := by omega
    have g4 : decide ((s.size : Int) ≤ j) = true := decide_eq_true h4
    clear hin
    go_enter Try.func22, Try.ntmps22
    go_wp2_with fail
    go_ret2
    exact ⟨rfl, Kept.refl _ _⟩
  · obtain ⟨a, rfl⟩ := Int.eq_ofNat_of_zero_le (show 0 ≤ i by omega)
    obtain ⟨b, rfl⟩ := Int.eq_ofNat_of_zero_le (show 0 ≤ j by omega)
    have hA : cmpA s (a : Int) (b : Int) = (sgnR (K.fS s.data.toList) s.size a b, 0) := by unfold cmpA; rw [if_neg hin, Int.toNat_natCast, Int.toNat_natCast]
    rw [hA]
    exact cmp_in s a b w hs (by omega) (by omega)
end Go.Proofs.Ytaeppgooenbfiaa
