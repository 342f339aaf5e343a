/-
  DeltaTakes: the walk.
-/
import Derived.Test.YtickefjlkpdifaaAwakeD
import Derived.Test.YtickefjlkpdifaaDTakeR
import Derived.Test.YtickefjlkpdifaaPlainI
namespace Go.Proofs.Ytickefjlkpdifaa
open Go.RowKit
set_option linter.unusedVariables false
set_option linter.unusedSimpArgs false

theorem Row.see {w : World} {e : TypeId} {a : Option Addr} {L c : Nat} {xs : List Value} (h : Row w e (.slice a L c) xs) : Sees w 1 a L xs ∧ L ≤ c ∧ c ≤ maxLen := by
  obtain ⟨a', c', hv, h1, h2, hsee, -⟩ := h.sees
  injection hv with e1 e2 e3
  subst e1 e2 e3
  exact ⟨hsee, h1, h2⟩

theorem deltaTakes_walk (s : ByteArray) (at_ n : Int) (w : World) (hz : s.size ≤ 140737488351232) (hi : -9223372036854775808 ≤ at_ ∧ at_ ≤ 9223372036854775807) (hn : -9223372036854775808 ≤ n ∧ n ≤ 9223372036854775807) :
    Calls Try.prog 11 #[.string s, .int .i64 at_, .int .i64 n] w fun e w' => e = .returned (.bool true) ∧ Kept [] w w' := by
  clear hi hn
  by_cases hbig : 1000 < s.size
  · have g1 : decide (1000 < (s.size : Int)) = true := by simp; omega
    go_enter Try.func11, Try.ntmps11
    go_wp2_with ((go_at_call 36; refine (awakeD _).mono ?_; rintro e w' ⟨rfl, hk⟩))
    go_ret
    exact ⟨rfl, by assumption⟩
  · have g1 : decide (1000 < (s.size : Int)) = false := by simp; omega
    go_enter Try.func11, Try.ntmps11
    go_wp2_with fail
    refine (dtake_any s at_ n _ (by omega)).mono ?_
    rintro e w1 hp
    have hlen : (K.lensR (K.bitsOf s.data.toList) at_ n).1.length ≤ 140737488351232 := K.lensR_len _ _ _
    generalize hR : K.lensR (K.bitsOf s.data.toList) at_ n = R at hp hlen
    have HR := Lib.hid hR
    clear hR
    obtain ⟨T, P, E⟩ := R
    obtain ⟨a, c, rfl, hrow, hk1, -⟩ := hp
    have hs1 := hrow.see.1
    have HK1 := Lib.hid hk1
    have HS1 := Lib.hid hs1
    clear hrow hk1 hs1
    go_wp2_with fail
    refine (refOf_ok s _ (by omega)).mono ?_
    rintro e w2 ⟨ao, co, rfl, hrow2, hk2, -, hco, hcm⟩
    have hs2 := hrow2.see.1
    have HK2 := Lib.hid (HK1.out.new hk2 (by simp [Fresh]))
    have hs12 := HS1.out.kept0 hk2
    have HS12 := Lib.hid hs12
    clear hk2 hrow2 hs12 HS1
    go_wp2_with fail
    refine (rtake_any ao _ co (K.bitsOf s.data.toList) at_ n _ (K.bitsOf_length _) (by rw [toList_length]; omega) hco hcm hs2).mono ?_
    rintro e w3 hp
    rw [HR.out] at hp
    obtain ⟨a3, c3, rfl, hrow3, hk3, -⟩ := hp
    have hs3 := hrow3.see.1
    have hs13 := HS12.out.kept0 hk3
    have HK3 := Lib.hid (HK2.out.new hk3 (by simp [Fresh]))
    clear hk3 hrow3 hs2
    go_wp2_with fail
    refine (ints_ok a a3 c c3 T T _ hs13 hs3 hlen).mono ?_
    rintro e w4 ⟨rfl, hk4⟩
    have HK4 := Lib.hid (HK3.out.new hk4 (by simp [Fresh]))
    clear hk4 hs3 hs13
    go_wp2_with ((go_at_call 36; refine (awakeD _).mono ?_; rintro e w' ⟨rfl, hk⟩))
    go_ret
    exact ⟨rfl, HK4.out.new ‹_› (by simp [Fresh])⟩
end Go.Proofs.Ytickefjlkpdifaa
