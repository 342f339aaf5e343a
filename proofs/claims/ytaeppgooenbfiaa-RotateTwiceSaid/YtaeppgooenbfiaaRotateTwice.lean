/-
  RotateTwice: the walk.
-/
import Derived.Test.YtaeppgooenbfiaaRotJ
namespace Go.Proofs.Ytaeppgooenbfiaa
open Go.RowKit
set_option linter.unusedVariables false
set_option linter.unusedSimpArgs false

set_option maxHeartbeats 1000000 in
theorem rotateTwice_walk (s : ByteArray) (i : Int) (w : World) (hs : s.size ≤ 140737488351232) (hi : -9223372036854775808 ≤ i ∧ i ≤ 9223372036854775807) :
    Calls Try.prog 8 #[.string s, .int .i64 i] w fun e w' => e = .returned (.bool true) ∧ Kept [] w w' := by
  by_cases h : 1000 < s.size
  · have g1 : decide (1000 < (s.size : Int)) = true := by simp; omega
    go_enter Try.func8, Try.ntmps8
    go_wp2_with ((go_at_call 17; refine (awakeR _).mono ?_; rintro e w' ⟨rfl, hk⟩))
    go_ret
    exact ⟨rfl, by assumption⟩
  have g1 : decide (1000 < (s.size : Int)) = false := by simp; omega
  by_cases h2 : i < 0
  · have g2 : decide (i < 0) = true := decide_eq_true h2
    go_enter Try.func8, Try.ntmps8
    go_wp2_with ((go_at_call 17; refine (awakeR _).mono ?_; rintro e w' ⟨rfl, hk⟩))
    go_ret
    exact ⟨rfl, by assumption⟩
  have g2 : decide (i < 0) = false := decide_eq_false h2
  by_cases h3 : (s.size : Int) ≤ i
  · have g3 : decide ((s.size : Int) ≤ i) = true := decide_eq_true h3
    go_enter Try.func8, Try.ntmps8
    go_wp2_with ((go_at_call 17; refine (awakeR _).mono ?_; rintro e w' ⟨rfl, hk⟩))
    go_ret
    exact ⟨rfl, by assumption⟩
  have g3 : decide ((s.size : Int) ≤ i) = false := decide_eq_false h3
  obtain ⟨a, rfl⟩ := Int.eq_ofNat_of_zero_le (show 0 ≤ i by omega)
  have ha : a < s.size := by omega
  have hl : s.data.toList.length = s.size := byte_len s
  go_enter Try.func8, Try.ntmps8
  go_wp2_with fail
  refine (period_any s _ (by omega)).mono ?_
  rintro e w1 ⟨⟨p, rfl, hP⟩, hk1⟩
  have hpp := per_pos _ p (by omega) hP
  have HP := Lib.hid hP
  have HPP := Lib.hid hpp
  have HK1 := Lib.hid hk1
  have hp1 : 1 ≤ p := hpp.1
  have hpn : p ≤ s.size := by have := hpp.2.1; omega
  have hpd : s.size % p = 0 := by have := hpp.2.2.1.1; rwa [hl] at this
  have k1 : decide ((p : Int) < 1) = false := by simp; omega
  have hrem : (s.size : Int).tmod (p : Int) = 0 := by
    rw [Int.tmod_eq_emod_of_nonneg (by omega)]
    omega
  clear hP hpp hk1
  go_wp2_with fail
  refine (period_any (s ++ s) _ (by rw [show (s ++ s).size = s.size + s.size by simp]; omega)).mono ?_
  rintro e w2 ⟨⟨r, rfl, hP2⟩, hk2⟩
  obtain rfl : r = p := per_twice s.data.toList p r (by omega) HP.out (by have := hP2; rwa [ByteArray.data_append, Array.toList_append] at this)
  have HK2 := Lib.hid (HK1.out.new hk2 (by simp [Fresh]))
  have hw1 : IntKind.i64.wrap ((a : Int) + (r : Int)) = (a : Int) + (r : Int) := IntWalk.i64_in _ (by omega)
  have hw2 : IntKind.i64.wrap ((a : Int) + 1) = (a : Int) + 1 := IntWalk.i64_in _ (by omega)
  have ht1 : ((a : Int) + (r : Int)).tmod (s.size : Int) = (((a + r) % s.size : Nat) : Int) := by rw [Int.tmod_eq_emod_of_nonneg (by omega)]; norm_cast
  have ht2 : ((a : Int) + 1).tmod (s.size : Int) = (((a + 1) % s.size : Nat) : Int) := by rw [Int.tmod_eq_emod_of_nonneg (by omega)]; norm_cast
  have hz : ¬ (s.size : Int) = 0 := by omega
  have hc1 := sgn_per s.data.toList r a (by omega) HPP.out.2.2.1
  have hc2 := sgn_one s.data.toList a (by omega)
  rw [hl] at hc1 hc2
  have HC1 := Lib.hid hc1
  have HC2 := Lib.hid hc2
  clear hP2 hk2 hc1 hc2
  go_wp2_with fail
  refine (cmp_in s a ((a + r) % s.size) _ (by omega) ha (Nat.mod_lt _ (by omega))).mono ?_
  rintro e w3 ⟨rfl, hk3⟩
  rw [HC1.out]
  have HK3 := Lib.hid (HK2.out.new hk3 (by simp [Fresh]))
  clear hk3
  go_wp2_with fail
  refine (cmp_in s a ((a + 1) % s.size) _ (by omega) ha (Nat.mod_lt _ (by omega))).mono ?_
  rintro e w4 ⟨rfl, hk4⟩
  have HK4 := Lib.hid (HK3.out.new hk4 (by simp [Fresh]))
  clear hk4
  obtain ⟨d, hd⟩ : ∃ d, sgnR (K.fS s.data.toList) s.size a ((a + 1) % s.size) = d := ⟨_, rfl⟩
  have hdd : (d == 0) = ((r : Int) == 1) := by
    have h1 : d = 0 ↔ r = 1 := by
      rw [← hd, HC2.out]
      constructor
      · intro h
        rcases Nat.lt_or_ge 1 r with h4 | h4
        · exact absurd ⟨Nat.mod_one _, h⟩ (HPP.out.2.2.2 1 (Nat.le_refl _) h4)
        · omega
      · rintro rfl; exact HPP.out.2.2.1.2
    by_cases h5 : r = 1
    · subst h5; rw [h1.2 rfl]; rfl
    · rw [beq_eq_false_iff_ne.2 (fun h => h5 (h1.1 h)), beq_eq_false_iff_ne.2 (by omega)]
  rw [hd]
  have HDD := Lib.hid hdd
  clear hd
  go_wp2_with ((go_at_call 17; refine (awakeR _).mono ?_; rintro e w' ⟨rfl, hk⟩))
  all_goals
    go_ret
    exact ⟨rfl, HK4.out.new (by assumption) (by simp [Fresh])⟩
end Go.Proofs.Ytaeppgooenbfiaa
