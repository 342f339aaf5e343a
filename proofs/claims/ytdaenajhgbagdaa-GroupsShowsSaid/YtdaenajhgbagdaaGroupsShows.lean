/-
  GroupsShows: the walk.
-/
import Derived.Test.YtdaenajhgbagdaaAwakeG
import Derived.Test.YtdaenajhgbagdaaRefG3
namespace Go.Proofs.Ytdaenajhgbagdaa
open Go.RowKit
set_option linter.unusedVariables false
set_option linter.unusedSimpArgs false

theorem gshow_any (aT aP : Option Addr) (cT cP : Nat) (T : List (List Int)) (P : List Int) (w : World) (h : PlanAt w aT aP cT cP T P) :
    Calls Try.prog 16 #[planV aT T.length cT aP P.length cP] w (BitsPost (K.showPR T P) w) := by
  rcases Bool.eq_false_or_eq_true (K.mayPlan T P) with hm | hm
  · exact gshow_good aT aP cT cP T P w h hm
  · exact gshow_bad aT aP cT cP T P w h hm
theorem groupsShows_walk (aT aP : Option Addr) (cT cP : Nat) (T : List (List Int)) (P : List Int) (w : World) (h : PlanAt w aT aP cT cP T P) :
    Calls Try.prog 4 #[planV aT T.length cT aP P.length cP] w fun e w' => e = .returned (.bool true) ∧ Kept [] w w' := by
  have hk : Kept [] w (w.alloc (.cells #[.slice aT T.length cT, .slice aP P.length cP] 32)) := (Kept.refl [] w).alloc _
  have p1 := h.kept hk
  have hA := Arr.new w [.slice aT T.length cT, .slice aP P.length cP] 32
  have HL := Lib.hid (light_any aT aP cT cP T P _ p1)
  unfold planV at HL ⊢
  have b0 := hA.cell (i := 0) (u := .slice aT T.length cT) rfl
  have b1 := hA.cell (i := 1) (u := .slice aP P.length cP) rfl
  have HK := Lib.hid hk
  have HA := Lib.hid hA
  have HP := Lib.hid p1
  clear hk hA p1 h
  cases hlight : lightP T P with
  | false =>
    rw [hlight] at HL
    go_enter Try.func4, Try.ntmps4
    go_wp2_with fail
    refine HL.out.mono ?_
    rintro e w2 ⟨rfl, hk2⟩
    have HK2 := Lib.hid (HK.out.trans hk2 (by simp))
    clear hk2
    go_wp2_with ((go_at_call 14; refine (awakeG _).mono ?_; rintro e w' ⟨rfl, hk⟩))
    go_ret
    exact ⟨rfl, HK2.out.trans hk (by simp)⟩
  | true =>
    rw [hlight] at HL
    clear hlight
    go_enter Try.func4, Try.ntmps4
    go_wp2_with fail
    refine HL.out.mono ?_
    rintro e w2 ⟨rfl, hk2⟩
    have HK2 := Lib.hid (HK.out.trans hk2 (by simp))
    have HA2 := Lib.hid (HA.out.kept hk2 (by simp))
    have HP2 := Lib.hid (HP.out.kept hk2)
    have c0 := HA2.out.cell (i := 0) (u := .slice aT T.length cT) rfl
    have c1 := HA2.out.cell (i := 1) (u := .slice aP P.length cP) rfl
    have G := gshow_any aT aP cT cP T P w2 HP2.out
    unfold planV at G
    obtain ⟨⟨B, N, E⟩, hR⟩ : ∃ R, K.showPR T P = R := ⟨_, rfl⟩
    rw [hR] at G
    have HR := Lib.hid hR
    clear hk2 b0 b1 HL HK HA HP hR
    go_wp2_with fail
    refine G.mono ?_
    rintro e w3 ⟨rfl, hk3⟩
    have HK3 := Lib.hid hk3
    clear hk3 G
    unfold bitsV
    have hkB : Kept [] w2 (w3.alloc (.cells #[.string ⟨B.toArray⟩, .int .i64 N] 35)) := HK3.out.alloc _
    have hB := Arr.new w3 [.string ⟨B.toArray⟩, .int .i64 N] 35
    have M := rshowG_any aT aP cT cP T P _ (HP2.out.kept hkB)
    rw [HR.out] at M
    unfold planV at M
    have HM := Lib.hid M
    have HKB := Lib.hid hkB
    have HB := Lib.hid hB
    have d0 := (HA2.out.kept hkB (by simp)).cell (i := 0) (u := .slice aT T.length cT) rfl
    have d1 := (HA2.out.kept hkB (by simp)).cell (i := 1) (u := .slice aP P.length cP) rfl
    clear hkB hB M c0 c1
    go_wp2_with fail
    refine HM.out.mono ?_
    rintro e w4 ⟨rfl, hk4⟩
    unfold bitsV
    have hB4 := HB.out.kept hk4 (by simp)
    have c0 := hB4.cell (i := 0) (u := .string ⟨B.toArray⟩) rfl
    have c1 := hB4.cell (i := 1) (u := .int .i64 N) rfl
    have HK4 := Lib.hid (HK2.out.trans (HKB.out.trans hk4 (by simp)) (by simp))
    have hlt : w3.heap.size < w4.heap.size := hB4.lt
    have heq := fun W => eqBits_same ⟨B.toArray⟩ N W
    clear hk4 hB4 d0 d1
    go_wp2_with ((go_at_call 14; refine (awakeG _).mono ?_; rintro e w' ⟨rfl, hk⟩))
    go_ret
    exact ⟨rfl, (HK4.out.alloc _).trans hk (by simp)⟩
end Go.Proofs.Ytdaenajhgbagdaa
