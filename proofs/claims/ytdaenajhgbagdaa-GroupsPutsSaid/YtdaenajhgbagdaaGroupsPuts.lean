/-
  GroupsPuts: the walk.
-/
import Derived.Test.YtdaenajhgbagdaaAwakeG
import Derived.Test.YtdaenajhgbagdaaRefG6
namespace Go.Proofs.Ytdaenajhgbagdaa
open Go.RowKit
set_option linter.unusedVariables false
set_option linter.unusedSimpArgs false

set_option maxHeartbeats 1000000 in
theorem groupsPuts_walk (aT aP : Option Addr) (cT cP : Nat) (T : List (List Int)) (P : List Int) (aL : Option Addr) (len cap : Nat) (L : List Int) (w : World) (h : PlanAt w aT aP cT cP T P)
    (hL : Sees w 1 aL len (L.map (Value.int .i64)) ∧ L.length = len ∧ len ≤ cap ∧ cap ≤ maxLen ∧ len ≤ 17592186043904 ∧ ∀ x ∈ L, -9223372036854775808 ≤ x ∧ x ≤ 9223372036854775807) :
    Calls Try.prog 6 #[planV aT T.length cT aP P.length cP, .slice aL len cap] w fun e w' => e = .returned (.bool true) ∧ Kept [] w w' := by
  obtain ⟨hsL, rfl, -, -, hlen, -⟩ := hL
  have hsL : Sees w 1 aL L.length (intVals L) := hsL
  have hk : Kept [] w (w.alloc (.cells #[.slice aT T.length cT, .slice aP P.length cP] 32)) := (Kept.refl [] w).alloc _
  have p1 := h.kept hk
  have hA := Arr.new w [.slice aT T.length cT, .slice aP P.length cP] 32
  have HL := Lib.hid (light_any aT aP cT cP T P _ p1)
  unfold planV at HL ⊢
  have b0 := hA.cell (i := 0) (u := .slice aT T.length cT) rfl
  have b1 := hA.cell (i := 1) (u := .slice aP P.length cP) rfl
  have HK := Lib.hid hk
  have HA := Lib.hid hA
  have HP := Lib.hid p1
  have HS := Lib.hid (hsL.kept0 hk)
  clear hk hA p1 h hsL
  cases hlight : lightP T P with
  | false =>
    rw [hlight] at HL
    go_enter Try.func6, Try.ntmps6
    go_wp2_with fail
    refine HL.out.mono ?_
    rintro e w2 ⟨rfl, hk2⟩
    have HK2 := Lib.hid (HK.out.trans hk2 (by simp))
    clear hk2
    go_wp2_with ((go_at_call 14; refine (awakeG _).mono ?_; rintro e w' ⟨rfl, hk⟩))
    go_ret
    exact ⟨rfl, HK2.out.trans hk (by simp)⟩
  | true =>
    rw [hlight] at HL
    clear hlight
    by_cases hbig : 3000 < L.length
    · have g1 : decide (3000 < (L.length : Int)) = true := by simp; omega
      go_enter Try.func6, Try.ntmps6
      go_wp2_with fail
      refine HL.out.mono ?_
      rintro e w2 ⟨rfl, hk2⟩
      have HK2 := Lib.hid (HK.out.trans hk2 (by simp))
      clear hk2
      go_wp2_with ((go_at_call 14; refine (awakeG _).mono ?_; rintro e w' ⟨rfl, hk⟩))
      go_ret
      exact ⟨rfl, HK2.out.trans hk (by simp)⟩
    · have g1 : decide (3000 < (L.length : Int)) = false := by simp; omega
      have hll : L.length ≤ 3000 := by omega
      go_enter Try.func6, Try.ntmps6
      go_wp2_with fail
      refine HL.out.mono ?_
      rintro e w2 ⟨rfl, hk2⟩
      have HK2 := Lib.hid (HK.out.trans hk2 (by simp))
      have HA2 := Lib.hid (HA.out.kept hk2 (by simp))
      have HP2 := Lib.hid (HP.out.kept hk2)
      have HS2 := Lib.hid (HS.out.kept0 hk2)
      have c0 := HA2.out.cell (i := 0) (u := .slice aT T.length cT) rfl
      have c1 := HA2.out.cell (i := 1) (u := .slice aP P.length cP) rfl
      have G := gput_any aT aP aL cT cP cap T P L w2 HP2.out HS2.out (by omega)
      obtain ⟨⟨B, N, E⟩, hR⟩ : ∃ R, K.putGR T P L = R := ⟨_, rfl⟩
      obtain ⟨⟨X, Y⟩, hZ⟩ : ∃ R, K.sizeGR T P L = R := ⟨_, rfl⟩
      rw [hR] at G
      unfold planV at G
      have HM1 := Lib.hid (fun (W : World) (hW : Kept [] w2 W) => show Calls Try.prog 23 #[.agg #[.slice aT T.length cT, .slice aP P.length cP], .slice aL L.length cap] W (BitsPost (B, N, E) W) by
        rw [← hR]; exact rputG_any aT aP aL cT cP cap T P L W (HP2.out.kept hW) (HS2.out.kept0 hW) (by omega))
      have HM2 := Lib.hid (fun (W : World) (hW : Kept [] w2 W) => show Calls Try.prog 24 #[.agg #[.slice aT T.length cT, .slice aP P.length cP], .slice aL L.length cap] W (NumPost (X, Y) W) by
        rw [← hZ]; exact gsize_any aT aP aL cT cP cap T P L W (HP2.out.kept hW) (HS2.out.kept0 hW) (by omega))
      have HM3 := Lib.hid (fun (W : World) (hW : Kept [] w2 W) => show Calls Try.prog 25 #[.agg #[.slice aT T.length cT, .slice aP P.length cP], .slice aL L.length cap] W (NumPost (X, Y) W) by
        rw [← hZ]; exact rsizeG_any aT aP aL cT cP cap T P L W (HP2.out.kept hW) (HS2.out.kept0 hW) (by omega))
      clear hk2 b0 b1 HL HK HA HP HS hR hZ hbig
      go_wp2_with fail
      refine G.mono ?_
      rintro e w3 ⟨rfl, hk3⟩
      unfold bitsV
      have hkB : Kept [] w2 (w3.alloc (.cells #[.string ⟨B.toArray⟩, .int .i64 N] 35)) := hk3.alloc _
      have hB := Arr.new w3 [.string ⟨B.toArray⟩, .int .i64 N] 35
      have M := HM1.out _ hkB
      have HKB := Lib.hid hkB
      have HB := Lib.hid hB
      have d0 := (HA2.out.kept hkB (by simp)).cell (i := 0) (u := .slice aT T.length cT) rfl
      have d1 := (HA2.out.kept hkB (by simp)).cell (i := 1) (u := .slice aP P.length cP) rfl
      clear hkB hB hk3 G c0 c1 HM1
      go_wp2_with fail
      refine M.mono ?_
      rintro e w4 ⟨rfl, hk4⟩
      unfold bitsV
      have hkC : Kept [] w2 (w4.alloc (.cells #[.string ⟨B.toArray⟩, .int .i64 N] 35)) := (HKB.out.trans hk4 (by simp)).alloc _
      have hB4 := (HB.out.kept hk4 (by simp))
      have hC := Arr.new w4 [.string ⟨B.toArray⟩, .int .i64 N] 35
      have hBC := hB4.kept ((Kept.refl [] w4).alloc (.cells #[.string ⟨B.toArray⟩, .int .i64 N] 35)) (by simp)
      have HB5 := Lib.hid hBC
      have HC5 := Lib.hid hC
      have HK5 := Lib.hid hkC
      have d0 := (HA2.out.kept hkC (by simp)).cell (i := 0) (u := .slice aT T.length cT) rfl
      have d1 := (HA2.out.kept hkC (by simp)).cell (i := 1) (u := .slice aP P.length cP) rfl
      have HLT := Lib.hid (show w3.heap.size < w4.heap.size from hB4.lt)
      clear hkC hB4 hC hBC hk4 M HB HKB
      obtain ⟨W5, hW5⟩ : ∃ W5, w4.alloc (.cells #[.string ⟨B.toArray⟩, .int .i64 N] 35) = W5 := ⟨_, rfl⟩
      have M := HM2.out _ HK5.out
      rw [hW5] at HB5 HC5 HK5 M
      have HW5 := Lib.hid hW5
      clear hW5 HM2
      go_wp2_with fail
      rw [HW5.out]
      refine M.mono ?_
      rintro e w6 ⟨rfl, hk6⟩
      have HK6 := Lib.hid (HK5.out.trans hk6 (by simp))
      have HB6 := Lib.hid (HB5.out.kept hk6 (by simp))
      have HC6 := Lib.hid (HC5.out.kept hk6 (by simp))
      have d0 := (HA2.out.kept HK6.out (by simp)).cell (i := 0) (u := .slice aT T.length cT) rfl
      have d1 := (HA2.out.kept HK6.out (by simp)).cell (i := 1) (u := .slice aP P.length cP) rfl
      have M := HM3.out _ HK6.out
      clear hk6 HB5 HC5 HM3 HW5
      go_wp2_with fail
      refine M.mono ?_
      rintro e w7 ⟨rfl, hk7⟩
      have HK7 := Lib.hid (HK2.out.trans (HK6.out.trans hk7 (by simp)) (by simp))
      have hB7 := HB6.out.kept hk7 (by simp)
      have hC7 := HC6.out.kept hk7 (by simp)
      have c0 := hB7.cell (i := 0) (u := .string ⟨B.toArray⟩) rfl
      have c1 := hB7.cell (i := 1) (u := .int .i64 N) rfl
      have c2 := hC7.cell (i := 0) (u := .string ⟨B.toArray⟩) rfl
      have c3 := hC7.cell (i := 1) (u := .int .i64 N) rfl
      have heq := fun W => eqBits_same ⟨B.toArray⟩ N W
      clear hk7 hB7 hC7 M d0 d1
      go_wp2_with ((go_at_call 14; refine (awakeG _).mono ?_; rintro e w' ⟨rfl, hk⟩))
      go_ret
      exact ⟨rfl, HK7.out.trans hk (by simp)⟩
end Go.Proofs.Ytdaenajhgbagdaa
