/-
  GroupsFlats: the walk.
-/
import Derived.Test.YtdaenajhgbagdaaAwakeG
import Derived.Test.YtdaenajhgbagdaaGrpO
namespace Go.Proofs.Ytdaenajhgbagdaa
open Go.RowKit
set_option linter.unusedVariables false
set_option linter.unusedSimpArgs false

set_option maxHeartbeats 1000000 in
theorem groupsFlats_walk (a : Option Addr) (len cap : Nat) (xs : List Int) (n : Int) (w : World)
    (h : Sees w 1 a len (xs.map (Value.int .i64)) ∧ xs.length = len ∧ len ≤ cap ∧ cap ≤ maxLen ∧ len ≤ 17592186043904 ∧ ∀ x ∈ xs, -9223372036854775808 ≤ x ∧ x ≤ 9223372036854775807) (hn : -9223372036854775808 ≤ n ∧ n ≤ 9223372036854775807) :
    Calls Try.prog 9 #[.slice a len cap, .int .i64 n] w fun e w' => e = .returned (.bool true) ∧ Kept [] w w' := by
  obtain ⟨hs, rfl, hc, hcm, hlen, -⟩ := h
  have hs : Sees w 1 a xs.length (intVals xs) := hs
  have HS := Lib.hid hs
  clear hs hn
  by_cases hbig : 3000 < xs.length
  · have g1 : decide (3000 < (xs.length : Int)) = true := by simp; omega
    go_enter Try.func9, Try.ntmps9
    go_wp2_with ((go_at_call 14; refine (awakeG _).mono ?_; rintro e w' ⟨rfl, hk⟩))
    go_ret
    exact ⟨rfl, by assumption⟩
  · have g1 : decide (3000 < (xs.length : Int)) = false := by simp; omega
    have hll : xs.length ≤ 3000 := by omega
    have HC1 := Lib.hid (gflat_any a cap xs n w HS.out (by omega))
    have HC2 := Lib.hid (fun (W : World) (hW : Kept [] w W) => rflatG_any a cap xs n W (HS.out.kept0 hW) (by omega))
    have HC3 := Lib.hid (fun (W : World) (hW : Kept [] w W) => gbest_any a cap xs n W (HS.out.kept0 hW) hc hcm (by omega))
    have HC4 := Lib.hid (fun (W : World) (hW : Kept [] w W) => rbestG_any a cap xs n W (HS.out.kept0 hW) hc hcm (by omega))
    obtain ⟨⟨T, P, E⟩, hR⟩ : ∃ R, flatGR xs n = R := ⟨_, rfl⟩
    obtain ⟨⟨U, Q, F⟩, hR2⟩ : ∃ R, bestGR xs n = R := ⟨_, rfl⟩
    rw [hR] at HC1 HC2
    rw [hR2] at HC3 HC4
    clear hR hR2 hbig
    go_enter Try.func9, Try.ntmps9
    go_wp2_with fail
    refine HC1.out.mono ?_
    rintro e w2 ⟨a1, c1, b1, d1, rfl, hpl, hk2, -, -⟩
    have HK2 := Lib.hid hk2
    have HP := Lib.hid hpl
    clear hpl hk2 HC1
    unfold planV
    have hkA : Kept [] w2 (w2.alloc (.cells #[.slice a1 T.length c1, .slice b1 P.length d1] 32)) := (Kept.refl _ _).alloc _
    have hA := Arr.new w2 [.slice a1 T.length c1, .slice b1 P.length d1] 32
    have HP3 := Lib.hid (HP.out.kept hkA)
    have HK3 := Lib.hid (HK2.out.trans hkA (by simp))
    have HA3 := Lib.hid hA
    obtain ⟨g1, hg1⟩ : ∃ g, w2.heap.size = g := ⟨_, rfl⟩
    obtain ⟨W3, hW3⟩ : ∃ W, w2.alloc (.cells #[.slice a1 T.length c1, .slice b1 P.length d1] 32) = W := ⟨_, rfl⟩
    rw [hW3] at HP3 HK3 HA3
    rw [hg1] at HA3
    have HW := Lib.hid hW3
    have HG1 := Lib.hid hg1
    have M := HC2.out W3 HK3.out
    clear hkA hA hW3 hg1 HP HK2 HC2
    go_wp2_with fail
    rw [HW.out, HG1.out]
    refine M.mono ?_
    rintro e w4 ⟨a2, c2, b2, d2, rfl, hpl, hk4, -, -⟩
    have HK4 := Lib.hid (HK3.out.trans hk4 (by simp))
    have HP4 := Lib.hid (HP3.out.kept hk4)
    have HA4 := Lib.hid (HA3.out.kept hk4 (by simp))
    have HQ := Lib.hid hpl
    clear hpl hk4 M HW HG1 HP3 HK3 HA3
    unfold planV
    have hkA : Kept [] w4 (w4.alloc (.cells #[.slice a2 T.length c2, .slice b2 P.length d2] 32)) := (Kept.refl _ _).alloc _
    have hA := Arr.new w4 [.slice a2 T.length c2, .slice b2 P.length d2] 32
    have HP5 := Lib.hid (HP4.out.kept hkA)
    have HQ5 := Lib.hid (HQ.out.kept hkA)
    have HK5 := Lib.hid (HK4.out.trans hkA (by simp))
    have HA5 := Lib.hid (HA4.out.kept hkA (by simp))
    have HB5 := Lib.hid hA
    obtain ⟨g2, hg2⟩ : ∃ g, w4.heap.size = g := ⟨_, rfl⟩
    obtain ⟨W5, hW5⟩ : ∃ W, w4.alloc (.cells #[.slice a2 T.length c2, .slice b2 P.length d2] 32) = W := ⟨_, rfl⟩
    rw [hW5] at HP5 HQ5 HK5 HA5 HB5
    rw [hg2] at HB5
    have HW := Lib.hid hW5
    have HG2 := Lib.hid hg2
    have M := HC3.out W5 HK5.out
    clear hkA hA hW5 hg2 HP4 HQ HK4 HA4 HC3
    go_wp2_with fail
    rw [HW.out, HG2.out]
    refine M.mono ?_
    rintro e w6 ⟨a3, c3, b3, d3, rfl, hpl, hk6, -, -⟩
    have HK6 := Lib.hid (HK5.out.trans hk6 (by simp))
    have HP6 := Lib.hid (HP5.out.kept hk6)
    have HQ6 := Lib.hid (HQ5.out.kept hk6)
    have HA6 := Lib.hid (HA5.out.kept hk6 (by simp))
    have HB6 := Lib.hid (HB5.out.kept hk6 (by simp))
    have HR := Lib.hid hpl
    clear hpl hk6 M HW HG2 HP5 HQ5 HK5 HA5 HB5
    unfold planV
    have hkA : Kept [] w6 (w6.alloc (.cells #[.slice a3 U.length c3, .slice b3 Q.length d3] 32)) := (Kept.refl _ _).alloc _
    have hA := Arr.new w6 [.slice a3 U.length c3, .slice b3 Q.length d3] 32
    have HP7 := Lib.hid (HP6.out.kept hkA)
    have HQ7 := Lib.hid (HQ6.out.kept hkA)
    have HR7 := Lib.hid (HR.out.kept hkA)
    have HK7 := Lib.hid (HK6.out.trans hkA (by simp))
    have HA7 := Lib.hid (HA6.out.kept hkA (by simp))
    have HB7 := Lib.hid (HB6.out.kept hkA (by simp))
    have HC7 := Lib.hid hA
    obtain ⟨g3, hg3⟩ : ∃ g, w6.heap.size = g := ⟨_, rfl⟩
    obtain ⟨W7, hW7⟩ : ∃ W, w6.alloc (.cells #[.slice a3 U.length c3, .slice b3 Q.length d3] 32) = W := ⟨_, rfl⟩
    rw [hW7] at HP7 HQ7 HR7 HK7 HA7 HB7 HC7
    rw [hg3] at HC7
    have HW := Lib.hid hW7
    have HG3 := Lib.hid hg3
    have M := HC4.out W7 HK7.out
    clear hkA hA hW7 hg3 HP6 HQ6 HR HK6 HA6 HB6 HC4
    go_wp2_with fail
    rw [HW.out, HG3.out]
    refine M.mono ?_
    rintro e w8 ⟨a4, c4, b4, d4, rfl, hpl, hk8, -, -⟩
    have HK8 := Lib.hid (HK7.out.trans hk8 (by simp))
    have HP8 := Lib.hid (HP7.out.kept hk8)
    have HQ8 := Lib.hid (HQ7.out.kept hk8)
    have HR8 := Lib.hid (HR7.out.kept hk8)
    have HS8 := Lib.hid hpl
    have hA8 := HA7.out.kept hk8 (by simp)
    have hB8 := HB7.out.kept hk8 (by simp)
    have hC8 := HC7.out.kept hk8 (by simp)
    have x1 := hA8.lt
    have x2 := hB8.lt
    have x3 := hC8.lt
    have e1 := hA8.cell (i := 0) (u := .slice a1 T.length c1) rfl
    have e2 := hA8.cell (i := 1) (u := .slice b1 P.length d1) rfl
    have e3 := hB8.cell (i := 0) (u := .slice a2 T.length c2) rfl
    have e4 := hB8.cell (i := 1) (u := .slice b2 P.length d2) rfl
    have e5 := hC8.cell (i := 0) (u := .slice a3 U.length c3) rfl
    have e6 := hC8.cell (i := 1) (u := .slice b3 Q.length d3) rfl
    have HC8 := Lib.hid hC8
    unfold planV
    have HSM1 := Lib.hid (fun (W : World) (hW : Kept [] w8 W) => show Calls Try.prog 28 #[.agg #[.slice a1 T.length c1, .slice b1 P.length d1], .agg #[.slice a2 T.length c2, .slice b2 P.length d2]] W (KBool true W) from by
      have h := same_any a1 b1 c1 d1 T P a2 b2 c2 d2 T P W (HP8.out.kept hW) (HQ8.out.kept hW)
      rw [sameP_self] at h
      exact h)
    have HSM2 := Lib.hid (fun (W : World) (hW : Kept [] w8 W) => show Calls Try.prog 28 #[.agg #[.slice a3 U.length c3, .slice b3 Q.length d3], .agg #[.slice a4 U.length c4, .slice b4 Q.length d4]] W (KBool true W) from by
      have h := same_any a3 b3 c3 d3 U Q a4 b4 c4 d4 U Q W (HR8.out.kept hW) (HS8.out.kept hW)
      rw [sameP_self] at h
      exact h)
    have HAL := Lib.hid ((Kept.refl [] w8).alloc (.cells #[.slice a4 U.length c4, .slice b4 Q.length d4] 32))
    have HD := Lib.hid (Arr.new w8 [.slice a4 U.length c4, .slice b4 Q.length d4] 32)
    clear hpl hk8 hA8 hB8 hC8 M HW HG3 HP7 HQ7 HR7 HK7 HA7 HB7 HC7
    go_wp2_with fail
    refine (HSM1.out _ HAL.out).mono ?_
    rintro e w9 ⟨rfl, hk9⟩
    have HK89 := Lib.hid (show Kept [] w8 w9 from HAL.out.trans hk9 (by simp))
    have f5 := HK89.out.cellOf e5 (by simp)
    have f6 := HK89.out.cellOf e6 (by simp)
    have hD9 := HD.out.kept hk9 (by simp)
    have f7 := hD9.cell (i := 0) (u := .slice a4 U.length c4) rfl
    have f8 := hD9.cell (i := 1) (u := .slice b4 Q.length d4) rfl
    clear hk9 hD9 e1 e2 e3 e4 e5 e6
    go_wp2_with fail
    refine (HSM2.out _ HK89.out).mono ?_
    rintro e w10 ⟨rfl, hk10⟩
    have HK10 := Lib.hid ((HK8.out.trans HK89.out (by simp)).trans hk10 (by simp))
    clear hk10
    go_wp2_with ((go_at_call 14; refine (awakeG _).mono ?_; rintro e w' ⟨rfl, hk⟩))
    go_ret
    exact ⟨rfl, HK10.out.trans hk (by simp)⟩
end Go.Proofs.Ytdaenajhgbagdaa
