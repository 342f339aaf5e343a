/-
  SymbolsTakes: the walk.
-/
import Derived.Test.YtkkjhkjgdpodeaaAwakeS
import Derived.Test.YtkkjhkjgdpodeaaSymG
import Derived.Test.YtkkjhkjgdpodeaaSymbolsFronts
namespace Go.Proofs.Ytkkjhkjgdpodeaa
open Go.RowKit
set_option linter.unusedVariables false
set_option linter.unusedSimpArgs false

theorem symbolsTakes_walk (s : ByteArray) (at_ : Int) (w : World) (hs : s.size ≤ 140737488351232) (hat : -9223372036854775808 ≤ at_ ∧ at_ ≤ 9223372036854775807) :
    Calls Try.prog 8 #[.string s, .int .i64 at_] w fun e w' => e = .returned (.bool true) ∧ Kept [] w w' := by
  by_cases h : 1000 < s.size
  · have g1 : decide (1000 < (s.size : Int)) = true := by simp; omega
    go_enter Try.func8, Try.ntmps8
    go_wp2_with ((go_at_call 12; refine (awakeS _).mono ?_; rintro e w' ⟨rfl, hk⟩))
    go_ret
    exact ⟨rfl, by assumption⟩
  · have g1 : decide (1000 < (s.size : Int)) = false := by simp; omega
    clear hat
    go_enter Try.func8, Try.ntmps8
    go_wp2_with fail
    refine (stake_any s at_ _ (by omega)).mono ?_
    rintro e w1 ⟨rfl, hk1⟩
    have HK1 := Lib.hid hk1
    clear hk1
    go_wp2_with fail
    refine (refOf_ok s _ (by omega)).mono ?_
    rintro e w2 ⟨a, c, rfl, hrow, hk2, -, hc, hcm⟩
    have HK2 := Lib.hid (HK1.out.new hk2 (by simp [Fresh]))
    have hsee := hrow.seeA
    have hL : 8 * s.data.toList.length = 8 * s.size := by rw [byte_len]
    rw [hL] at hsee hc ⊢
    have HS := Lib.hid hsee
    clear hk2 hrow hsee hL
    go_wp2_with fail
    refine (rsymtake_any a (8 * s.size) c (K.bitsOf s.data.toList) at_ _ (bitsOf_len s) (by omega) hc HS.out).mono ?_
    rintro e w3 ⟨rfl, hk3⟩
    have HK3 := Lib.hid (HK2.out.new hk3 (by simp [Fresh]))
    clear hk3 hc hcm
    obtain ⟨T, n, er, hT⟩ : ∃ (T : List UInt8) (n : Int) (er : Nat), K.takeSR (K.bitsOf s.data.toList) at_ = (T, n, er) := ⟨_, _, _, rfl⟩
    rw [hT]
    clear hT
    go_wp2_with ((go_at_call 12; refine (awakeS _).mono ?_; rintro e w' ⟨rfl, hk⟩))
    go_ret
    exact ⟨rfl, HK3.out.new (by assumption) (by simp [Fresh])⟩
end Go.Proofs.Ytkkjhkjgdpodeaa
