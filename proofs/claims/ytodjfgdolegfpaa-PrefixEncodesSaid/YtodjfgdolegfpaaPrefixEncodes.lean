/-
  PrefixEncodes: the walk.
-/
import Derived.Test.YtodjfgdolegfpaaAwakeP
import Derived.Test.YtodjfgdolegfpaaPreJ
namespace Go.Proofs.Ytodjfgdolegfpaa
open Go.RowKit
set_option linter.unusedVariables false
set_option linter.unusedSimpArgs false

theorem prefixEncodes_walk (a : Option Addr) (len cap : Nat) (xs : List Int) (a2 : Option Addr) (len2 cap2 : Nat) (ys : List Int) (w : World)
    (h : Sees w 1 a len (xs.map (Value.int .i64)) ∧ xs.length = len ∧ len ≤ cap ∧ cap ≤ maxLen ∧ len ≤ 17592186043904 ∧ ∀ x ∈ xs, -9223372036854775808 ≤ x ∧ x ≤ 9223372036854775807)
    (h2 : Sees w 1 a2 len2 (ys.map (Value.int .i64)) ∧ ys.length = len2 ∧ len2 ≤ cap2 ∧ cap2 ≤ maxLen ∧ len2 ≤ 17592186043904 ∧ ∀ x ∈ ys, -9223372036854775808 ≤ x ∧ x ≤ 9223372036854775807) :
    Calls Try.prog 4 #[.slice a len cap, .slice a2 len2 cap2] w fun e w' => e = .returned (.bool true) ∧ Kept [] w w' := by
  obtain ⟨hsee, rfl, -, -, hlen, -⟩ := h
  obtain ⟨hsee2, rfl, -, -, -, -⟩ := h2
  have hsee : Sees w 1 a xs.length (intVals xs) := hsee
  have hsee2 : Sees w 1 a2 ys.length (intVals ys) := hsee2
  have HS := Lib.hid hsee
  have HS2 := Lib.hid hsee2
  clear hsee hsee2
  by_cases h : 1000 < ys.length
  · have g1 : decide (1000 < (ys.length : Int)) = true := by simp; omega
    go_enter Try.func4, Try.ntmps4
    go_wp2_with ((go_at_call 13; refine (awakeP _).mono ?_; rintro e w' ⟨rfl, hk⟩))
    go_ret
    exact ⟨rfl, by assumption⟩
  · have g1 : decide (1000 < (ys.length : Int)) = false := by simp; omega
    go_enter Try.func4, Try.ntmps4
    go_wp2_with fail
    refine (pencode_any a a2 cap cap2 xs ys _ HS.out (by omega) HS2.out (by omega)).mono ?_
    rintro e w1 ⟨rfl, hk1⟩
    have HK1 := Lib.hid hk1
    clear hk1
    obtain ⟨T, n, er, hT⟩ : ∃ (T : List UInt8) (n : Int) (er : Nat), K.encR xs ys = (T, n, er) := ⟨_, _, _, rfl⟩
    have HT := Lib.hid hT
    rw [hT]
    clear hT
    unfold bitsV
    go_wp2_with fail
    refine (rencode_any a a2 cap cap2 xs ys _ (HS.out.kept0 (HK1.out.alloc _)) hlen (HS2.out.kept0 (HK1.out.alloc _)) (by omega)).mono ?_
    rintro e w2 ⟨rfl, hk2⟩
    rw [HT.out]
    unfold bitsV
    have hh := hk2.heap (heap_alloc_new _ _) (by simp)
    have HK2 := Lib.hid ((HK1.out.alloc _).new hk2 (by simp [Fresh]))
    have hh3 := ((Kept.refl [] w2).alloc (.cells #[.string ⟨T.toArray⟩, .int .i64 n] 32)).heap hh (by simp)
    have c0 := cell_of_row _ w1.heap.size 0 _ _ _ hh3
    have c1 := cell_of_row _ w1.heap.size 1 _ _ _ hh3
    simp only [List.getElem?_toArray, List.getElem?_cons_zero, List.getElem?_cons_succ] at c0 c1
    clear hk2 hh hh3
    have heq := fun W => eqBits_same ⟨T.toArray⟩ n W
    go_wp2_with ((go_at_call 13; refine (awakeP _).mono ?_; rintro e w' ⟨rfl, hk⟩))
    go_ret
    exact ⟨rfl, (HK2.out.alloc _).new (by assumption) (by simp [Fresh])⟩
end Go.Proofs.Ytodjfgdolegfpaa
