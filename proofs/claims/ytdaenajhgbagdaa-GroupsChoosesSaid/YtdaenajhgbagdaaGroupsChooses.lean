/-
  GroupsChooses: the walk.
-/
import Derived.Test.YtdaenajhgbagdaaAwakeG
import Derived.Test.YtdaenajhgbagdaaGrpM
namespace Go.Proofs.Ytdaenajhgbagdaa
open Go.RowKit
set_option linter.unusedVariables false
set_option linter.unusedSimpArgs false

set_option maxHeartbeats 1000000 in
theorem groupsChooses_walk (a : Option Addr) (len cap : Nat) (xs : List Int) (n : Int) (w : World)
    (h : Sees w 1 a len (xs.map (Value.int .i64)) ∧ xs.length = len ∧ len ≤ cap ∧ cap ≤ maxLen ∧ len ≤ 17592186043904 ∧ (∀ x ∈ xs, -9223372036854775808 ≤ x ∧ x ≤ 9223372036854775807) ∧ (a = none → cap = 0)) (hn : -9223372036854775808 ≤ n ∧ n ≤ 9223372036854775807) :
    Calls Try.prog 8 #[.slice a len cap, .int .i64 n] w fun e w' => e = .returned (.bool true) ∧ Kept [] w w' := by
  obtain ⟨hs, rfl, hc, hcm, hlen, -, hao⟩ := h
  have hs : Sees w 1 a xs.length (intVals xs) := hs
  have HS := Lib.hid hs
  have HAO := Lib.hid hao
  clear hs hao hn
  by_cases hbig : 3000 < xs.length
  · have g1 : decide (3000 < (xs.length : Int)) = true := by simp; omega
    go_enter Try.func8, Try.ntmps8
    go_wp2_with ((go_at_call 14; refine (awakeG _).mono ?_; rintro e w' ⟨rfl, hk⟩))
    go_ret
    exact ⟨rfl, by assumption⟩
  · have g1 : decide (3000 < (xs.length : Int)) = false := by simp; omega
    have hll : xs.length ≤ 3000 := by omega
    have hone : ∀ u ∈ intVals xs, u.oneCell' = true := by intro u hu; obtain ⟨x, -, rfl⟩ := List.mem_map.1 hu; rfl
    have HONE := Lib.hid hone
    have L1 : ([] : List Value).length + xs.length ≤ maxLen := by simp only [maxLen, List.length_nil]; omega
    have L2 : (([] : List Value).length + xs.length) * 8 ≤ 140737488355328 := by simp only [List.length_nil]; omega
    have hE := Row.empty w 3
    have hSE := HS.out.kept0 ((Kept.refl [] w).alloc (.cells #[] 3))
    clear hone
    go_enter Try.func8, Try.ntmps8
    go_wp2_with ((at_builtin; refine wp_appS rfl _ _ 30 rfl 3 (.int .i64 0) 8 Try.underlying30 Try.infoInt rfl (.slice (some ⟨w.heap.size, 0, none⟩) 0 0) [] (intVals xs) a xs.length cap rfl rfl HONE.out hE hSE HAO.out L1 L2 ?_; intro a5 cap5 w5 hrow5 hk5 hg5))
    have hrow5 : Row w5 3 (.slice a5 xs.length cap5) (intVals xs) := by
      have h := hrow5
      rw [List.length_nil, Nat.zero_add, List.nil_append] at h
      exact h
    have hk5 : Kept [w.heap.size] (w.alloc (.cells #[] 3)) w5 := by
      have h := hk5
      simpa [foot, Value.ownBlock] using h
    have HK5 := Lib.hid (show Kept [] w w5 from ((Kept.refl [] w).alloc _).trans hk5 (by intro x hx; simp at hx; subst hx; exact .inr (Nat.le_refl _)))
    obtain ⟨a7, c7, hv7, hlc, hlm, -, -⟩ := hrow5.sees
    rw [intVals_length] at hv7 hlc
    injection hv7 with e1 e2 e3
    subst e1 e3
    have hs5 : Sees w5 1 a5 xs.length (intVals xs) := hrow5.seeA
    have HS5 := Lib.hid hs5
    have G := gchoose_any a5 cap5 xs n w5 hs5 hlc hlm (by omega)
    have HC := Lib.hid (fun (W : World) (hW : Kept [] w W) => rchooseG_any a cap xs n W (HS.out.kept0 hW) hc hcm (by omega))
    obtain ⟨⟨T, P, E⟩, hR⟩ : ∃ R, chooseR xs n = R := ⟨_, rfl⟩
    rw [hR] at G HC
    clear hrow5 hk5 hg5 hE hSE hs5 hlc hlm hR L1 L2 e2
    go_wp2_with fail
    refine G.mono ?_
    rintro e w6 ⟨aT, cT, aP, cP, rfl, hpl, hk6, -, -⟩
    have HPL := Lib.hid hpl
    have HS6 := Lib.hid (HS5.out.kept0 hk6)
    have HK6 := Lib.hid (HK5.out.trans hk6 (by simp))
    clear hpl hk6 G
    unfold planV
    have hkA : Kept [] w6 (w6.alloc (.cells #[.slice aT T.length cT, .slice aP P.length cP] 32)) := (Kept.refl _ _).alloc _
    have hA := Arr.new w6 [.slice aT T.length cT, .slice aP P.length cP] 32
    have HPA := Lib.hid (HPL.out.kept hkA)
    have HSA := Lib.hid (HS6.out.kept0 hkA)
    have HKA := Lib.hid (HK6.out.trans hkA (by simp))
    have HA := Lib.hid hA
    obtain ⟨WA, hWA⟩ : ∃ WA, w6.alloc (.cells #[.slice aT T.length cT, .slice aP P.length cP] 32) = WA := ⟨_, rfl⟩
    rw [hWA] at HPA HKA HA HSA
    have HW := Lib.hid hWA
    have M := HC.out WA HKA.out
    clear hkA hA hWA HPL HS6 HK6 HC
    go_wp2_with fail
    rw [HW.out]
    refine M.mono ?_
    rintro e w7 ⟨aU, cU, aQ, cQ, rfl, hpl, hk7, -, -⟩
    have HK7 := Lib.hid (HKA.out.trans hk7 (by simp))
    have HP7 := Lib.hid (HPA.out.kept hk7)
    have HQ7 := Lib.hid hpl
    have HS7 := Lib.hid (HSA.out.kept0 hk7)
    have hA7 := HA.out.kept hk7 (by simp)
    have hlt := hA7.lt
    have d0 := hA7.cell (i := 0) (u := .slice aT T.length cT) rfl
    have d1 := hA7.cell (i := 1) (u := .slice aP P.length cP) rfl
    unfold planV
    have HSM := Lib.hid (fun (W : World) (hW : Kept [] w7 W) => show Calls Try.prog 28 #[.agg #[.slice aT T.length cT, .slice aP P.length cP], .agg #[.slice aU T.length cU, .slice aQ P.length cQ]] W (KBool true W) from by
      have h := same_any aT aP cT cP T P aU aQ cU cQ T P W (HP7.out.kept hW) (HQ7.out.kept hW)
      rw [sameP_self] at h
      exact h)
    clear hpl hk7 hA7 M HA HW
    have HAL := Lib.hid ((Kept.refl [] w7).alloc (.cells #[.slice aU T.length cU, .slice aQ P.length cQ] 32))
    go_wp2_with fail
    refine (HSM.out _ HAL.out).mono ?_
    rintro e w8 ⟨rfl, hk8⟩
    have HK78 := Lib.hid (show Kept [] w7 w8 from HAL.out.trans hk8 (by simp))
    have HK8 := Lib.hid (HK7.out.trans HK78.out (by simp))
    have hI := HS7.out.kept0 HK78.out
    have hJ := HS.out.kept0 HK8.out
    have HIN := Lib.hid (ints_ok a5 a cap5 cap xs xs w8 hI hJ (by omega))
    clear hk8 hI hJ
    go_wp2_with fail
    refine HIN.out.mono ?_
    rintro e w9 ⟨rfl, hk9⟩
    have HK9 := Lib.hid (HK8.out.trans hk9 (by simp))
    clear hk9 HIN
    simp only [decide_true]
    go_wp2_with ((go_at_call 14; refine (awakeG _).mono ?_; rintro e w' ⟨rfl, hk⟩))
    go_ret
    exact ⟨rfl, HK9.out.trans hk (by simp)⟩
end Go.Proofs.Ytdaenajhgbagdaa
