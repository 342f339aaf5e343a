/-
  LengthsCosts: the walk.
-/
import Derived.Test.YtcjkjknahalpnaaAwakeL
import Derived.Test.YtcjkjknahalpnaaLenC
namespace Go.Proofs.Ytcjkjknahalpnaa
open Go.RowKit
set_option linter.unusedVariables false
set_option linter.unusedSimpArgs false

theorem lengthsCosts_walk (a0 : Option Addr) (len0 cap0 : Nat) (xs : List Int) (a1 : Option Addr) (len1 cap1 : Nat) (ys : List Int) (w : World)
    (h0 : Sees w 1 a0 len0 (xs.map (Value.int .i64)) ∧ xs.length = len0 ∧ len0 ≤ cap0 ∧ cap0 ≤ maxLen ∧ len0 ≤ 17592186043904 ∧ (∀ x ∈ xs, -9223372036854775808 ≤ x ∧ x ≤ 9223372036854775807) ∧ (a0 = none → cap0 = 0))
    (h1 : Sees w 1 a1 len1 (ys.map (Value.int .i64)) ∧ ys.length = len1 ∧ len1 ≤ cap1 ∧ cap1 ≤ maxLen ∧ len1 ≤ 17592186043904 ∧ (∀ x ∈ ys, -9223372036854775808 ≤ x ∧ x ≤ 9223372036854775807) ∧ (a1 = none → cap1 = 0)) :
    Calls Try.prog 6 #[.slice a0 len0 cap0, .slice a1 len1 cap1] w fun e w' => e = .returned (.bool true) ∧ Kept [] w w' := by
  obtain ⟨hsee, rfl, -, -, hlen, -, -⟩ := h0
  obtain ⟨hsee1, rfl, -, -, hlen1, -, -⟩ := h1
  have hsee : Sees w 1 a0 xs.length (intVals xs) := hsee
  have hsee1 : Sees w 1 a1 ys.length (intVals ys) := hsee1
  have HS := Lib.hid hsee
  have HS1 := Lib.hid hsee1
  clear hsee hsee1
  go_enter Try.func6, Try.ntmps6
  go_wp2_with fail
  refine (cost_any a0 a1 cap0 cap1 xs ys _ HS.out (by omega) HS1.out (by omega)).mono ?_
  rintro e w1 ⟨rfl, rfl⟩
  go_wp2_with fail
  refine (rcost_any a0 a1 cap0 cap1 xs ys _ HS.out (by omega) HS1.out (by omega)).mono ?_
  rintro e w1 ⟨rfl, hk1⟩
  generalize costN xs ys = n
  generalize costE xs ys = er
  go_wp2_with fail
  refine (awakeL _).mono ?_
  rintro e w1 ⟨rfl, hk⟩
  go_wp2_with fail
  go_ret
  exact ⟨rfl, hk1.new hk (by simp [Fresh])⟩
end Go.Proofs.Ytcjkjknahalpnaa
