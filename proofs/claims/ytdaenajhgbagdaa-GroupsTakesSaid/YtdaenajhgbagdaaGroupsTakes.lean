/-
  GroupsTakes: the walk.
-/
import Derived.Test.YtdaenajhgbagdaaAwakeG
import Derived.Test.YtdaenajhgbagdaaGrpJ
namespace Go.Proofs.Ytdaenajhgbagdaa
open Go.RowKit
set_option linter.unusedVariables false
set_option linter.unusedSimpArgs false

set_option maxHeartbeats 1000000 in
theorem groupsTakes_walk (s : ByteArray) (at_ n : Int) (w : World) (hs : s.size ≤ 140737488351232) (hat : -9223372036854775808 ≤ at_ ∧ at_ ≤ 9223372036854775807) (hn : -9223372036854775808 ≤ n ∧ n ≤ 9223372036854775807) :
    Calls Try.prog 7 #[.string s, .int .i64 at_, .int .i64 n] w fun e w' => e = .returned (.bool true) ∧ Kept [] w w' := by
  clear hat hn
  by_cases h : 3000 < s.size
  · have g1 : decide (3000 < (s.size : Int)) = true := by simp; omega
    go_enter Try.func7, Try.ntmps7
    go_wp2_with ((go_at_call 14; refine (awakeG _).mono ?_; rintro e w' ⟨rfl, hk⟩))
    go_ret
    exact ⟨rfl, by assumption⟩
  · have g1 : decide (3000 < (s.size : Int)) = false := by simp; omega
    have hsz : s.size ≤ 3000 := by omega
    have HC := Lib.hid (fun (W : World) (a : Option Addr) (c : Nat) (h1 : Sees W 1 a (8 * s.data.toList.length) (bis (K.bitsOf s.data.toList))) (h2 : 8 * s.data.toList.length ≤ c) (h3 : c ≤ maxLen) =>
      rtakeG_any a (8 * s.data.toList.length) c (K.bitsOf s.data.toList) at_ n W (by rw [bitsOf_len, byte_len]) (by rw [byte_len]; omega) h2 h3 h1)
    have G := gtake_any s at_ n w (by omega)
    obtain ⟨⟨T, C, q, E⟩, hR⟩ : ∃ R, K.takeGR (K.bitsOf s.data.toList) at_ n = R := ⟨_, rfl⟩
    rw [hR] at HC G
    clear h hR
    go_enter Try.func7, Try.ntmps7
    go_wp2_with fail
    refine G.mono ?_
    rintro e w2 ⟨aT, cT, aP, cP, rfl, hpl, hk2⟩
    have hpl : PlanAt w2 aT aP cT cP T (C.map fun n : Nat => (n : Int)) := hpl
    have HPL := Lib.hid hpl
    have HK2 := Lib.hid hk2
    clear hpl hk2 G
    unfold planV
    have hkA : Kept [] w2 (w2.alloc (.cells #[.slice aT T.length cT, .slice aP C.length cP] 32)) := (Kept.refl _ _).alloc _
    have hA := Arr.new w2 [.slice aT T.length cT, .slice aP C.length cP] 32
    have HPA := Lib.hid (HPL.out.kept hkA)
    have HKA := Lib.hid (HK2.out.trans hkA (by simp))
    have HA := Lib.hid hA
    obtain ⟨WA, hWA⟩ : ∃ WA, w2.alloc (.cells #[.slice aT T.length cT, .slice aP C.length cP] 32) = WA := ⟨_, rfl⟩
    rw [hWA] at HPA HKA HA
    have HW := Lib.hid hWA
    clear hkA hA hWA HPL HK2
    go_wp2_with fail
    rw [HW.out]
    refine (refOf_ok s _ (by omega)).mono ?_
    rintro e w3 ⟨a3, c3, rfl, hrow3, hk3, -, hc3, hm3⟩
    have HK3 := Lib.hid (HKA.out.trans hk3 (by simp))
    have HP3 := Lib.hid (HPA.out.kept hk3)
    have HA3 := Lib.hid (HA.out.kept hk3 (by simp))
    have M := HC.out w3 a3 c3 hrow3.seeA hc3 hm3
    clear hk3 hrow3 hc3 hm3 HC
    go_wp2_with fail
    refine M.mono ?_
    rintro e w4 ⟨aU, cU, aQ, cQ, rfl, hpl, hk4⟩
    have hpl : PlanAt w4 aU aQ cU cQ T (C.map fun n : Nat => (n : Int)) := hpl
    have HK4 := Lib.hid (HK3.out.trans hk4 (by simp))
    have HP4 := Lib.hid (HP3.out.kept hk4)
    have HQ4 := Lib.hid hpl
    have hA4 := HA3.out.kept hk4 (by simp)
    have hlt := hA4.lt
    have d0 := hA4.cell (i := 0) (u := .slice aT T.length cT) rfl
    have d1 := hA4.cell (i := 1) (u := .slice aP C.length cP) rfl
    unfold planV
    have HSM := Lib.hid (fun (W : World) (hW : Kept [] w4 W) => show Calls Try.prog 28 #[.agg #[.slice aT T.length cT, .slice aP C.length cP], .agg #[.slice aU T.length cU, .slice aQ C.length cQ]] W (KBool true W) from by
      have h := same_any aT aP cT cP T (C.map fun n : Nat => (n : Int)) aU aQ cU cQ T (C.map fun n : Nat => (n : Int)) W (HP4.out.kept hW) (HQ4.out.kept hW)
      rw [sameP_self] at h
      unfold planV at h
      rw [List.length_map] at h
      exact h)
    clear hpl hk4 hA4 M HA3
    have HAL := Lib.hid ((Kept.refl [] w4).alloc (.cells #[.slice aU T.length cU, .slice aQ C.length cQ] 32))
    go_wp2_with fail
    refine (HSM.out _ HAL.out).mono ?_
    rintro e w5 ⟨rfl, hk5⟩
    have HK5 := Lib.hid ((HK4.out.trans HAL.out (by simp)).trans hk5 (by simp))
    clear hk5
    go_wp2_with ((go_at_call 14; refine (awakeG _).mono ?_; rintro e w' ⟨rfl, hk⟩))
    go_ret
    exact ⟨rfl, HK5.out.trans hk (by simp)⟩
end Go.Proofs.Ytdaenajhgbagdaa
