/-
  PrefixDecodes: the walk.
-/
import Derived.Test.YtodjfgdolegfpaaAwakeP
import Derived.Test.YtodjfgdolegfpaaPreK
import Derived.Test.YtodjfgdolegfpaaRefB
namespace Go.Proofs.Ytodjfgdolegfpaa
open Go.RowKit
set_option linter.unusedVariables false
set_option linter.unusedSimpArgs false

theorem prefixDecodes_walk (a : Option Addr) (len cap : Nat) (xs : List Int) (s : ByteArray) (at_ : Int) (w : World)
    (h : Sees w 1 a len (xs.map (Value.int .i64)) ∧ xs.length = len ∧ len ≤ cap ∧ cap ≤ maxLen ∧ len ≤ 17592186043904 ∧ ∀ x ∈ xs, -9223372036854775808 ≤ x ∧ x ≤ 9223372036854775807)
    (hs : s.size ≤ 140737488351232) (hat : -9223372036854775808 ≤ at_ ∧ at_ ≤ 9223372036854775807) :
    Calls Try.prog 5 #[.slice a len cap, .string s, .int .i64 at_] w fun e w' => e = .returned (.bool true) ∧ Kept [] w w' := by
  obtain ⟨hsee, rfl, -, -, hlen, -⟩ := h
  have hsee : Sees w 1 a xs.length (intVals xs) := hsee
  have HS := Lib.hid hsee
  clear hsee hat
  by_cases h : 200 < s.size
  · have g1 : decide (200 < (s.size : Int)) = true := by simp; omega
    go_enter Try.func5, Try.ntmps5
    go_wp2_with ((go_at_call 13; refine (awakeP _).mono ?_; rintro e w' ⟨rfl, hk⟩))
    go_ret
    exact ⟨rfl, by assumption⟩
  · have g1 : decide (200 < (s.size : Int)) = false := by simp; omega
    go_enter Try.func5, Try.ntmps5
    go_wp2_with fail
    refine (decode_any a cap xs s at_ _ HS.out (by omega) (by omega)).mono ?_
    rintro e w1 ⟨rfl, hk1⟩
    have HK1 := Lib.hid hk1
    clear hk1
    go_wp2_with fail
    refine (refOf_ok s _ (by omega)).mono ?_
    rintro e w2 ⟨b, c, rfl, hrow, hk2, -, hc, hcm⟩
    have HK2 := Lib.hid (HK1.out.new hk2 (by simp [Fresh]))
    have hsee := hrow.seeA
    have hL : 8 * s.data.toList.length = 8 * s.size := by rw [byte_len]
    rw [hL] at hsee hc ⊢
    have HB := Lib.hid hsee
    clear hk2 hrow hsee hL
    go_wp2_with fail
    refine (rdecode_any a cap xs b c (8 * s.size) (K.bitsOf s.data.toList) at_ _ (HS.out.kept0 HK2.out) hlen HB.out (bitsOf_len s) (by omega) hc).mono ?_
    rintro e w3 ⟨rfl, hk3⟩
    have HK3 := Lib.hid (HK2.out.new hk3 (by simp [Fresh]))
    clear hk3 hc hcm
    obtain ⟨T, n, er, hT⟩ : ∃ (T n er : Nat), K.decR xs (K.bitsOf s.data.toList) at_ = (T, n, er) := ⟨_, _, _, rfl⟩
    rw [hT]
    clear hT
    go_wp2_with ((go_at_call 13; refine (awakeP _).mono ?_; rintro e w' ⟨rfl, hk⟩))
    go_ret
    exact ⟨rfl, HK3.out.new (by assumption) (by simp [Fresh])⟩
end Go.Proofs.Ytodjfgdolegfpaa
