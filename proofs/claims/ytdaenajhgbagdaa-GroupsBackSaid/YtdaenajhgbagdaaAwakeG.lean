/-
  The walk of kistlaw11's awake.
-/
import Derived.Test.YtdaenajhgbagdaaGrpE
import Derived.Test.YtdaenajhgbagdaaGrpF
import Derived.Test.YtdaenajhgbagdaaGrpG
import Derived.Test.YtdaenajhgbagdaaGrpX
import Derived.Test.YtdaenajhgbagdaaEqBits
namespace Go.Proofs.Ytdaenajhgbagdaa
open Go.RowKit
set_option linter.unusedVariables false
set_option linter.unusedSimpArgs false

theorem awg_flat : flatPT [0, 1, 2] 3 = [1, 2, 2] ∧ flatPP [0, 1, 2] = [0] := by decide +kernel
theorem awg_show : (K.showPR flT [0]).2 = (39, 0) := by decide +kernel
theorem awg_get : K.getR flT [0] (K.bitsOf (ByteArray.mk #[96]).data.toList) 0 = ([0, 2], 3, 0) := by decide +kernel
theorem awg_may : K.mayPlan flT [0] = true ∧ K.mayListL [0, 1, 2] 3 = true := by decide +kernel
theorem awg_tab : K.tablesR 200 = (3, 0) := by decide +kernel

set_option maxRecDepth 100000 in
set_option maxHeartbeats 1000000 in
theorem awakeG (w : World) : Calls Try.prog 14 #[] w fun e w' => e = .returned (.bool true) ∧ Kept [] w w' := by
  go_enter Try.func14, Try.ntmps14
  go_wp2_with fail
  have hs0 : Sees (w.alloc (.cells #[.int .i64 0, .int .i64 1, .int .i64 2] 3)) 1 (some ⟨w.heap.size, 0, none⟩) 3 (intVals [0, 1, 2]) := Sees.lit (news := intVals [0, 1, 2]) rfl
  have hk0 : Kept [] w (w.alloc (.cells #[.int .i64 0, .int .i64 1, .int .i64 2] 3)) := (Kept.refl _ _).alloc _
  generalize w.alloc (.cells #[.int .i64 0, .int .i64 1, .int .i64 2] 3) = W0 at hs0 hk0 ⊢
  refine (gflat_good (some ⟨w.heap.size, 0, none⟩) 3 [0, 1, 2] 3 W0 hs0 awg_may.2).mono ?_
  rintro e w1 hp
  rw [awg_flat.1, awg_flat.2] at hp
  obtain ⟨aT, cT, aP, cP, rfl, hpl, hk1, -, -⟩ := hp
  have HP := Lib.hid hpl
  have HK := Lib.hid (hk0.trans hk1 (by simp))
  clear hs0 hk0 hk1 hpl
  unfold planV
  go_wp2_with fail
  have hkA : Kept [] w1 (w1.alloc (.cells #[.slice aT 2 cT, .slice aP 1 cP] 32)) := (Kept.refl _ _).alloc _
  have hA := Arr.new w1 [.slice aT 2 cT, .slice aP 1 cP] 32
  obtain ⟨WA, hWA⟩ : ∃ WA, w1.alloc (.cells #[.slice aT 2 cT, .slice aP 1 cP] 32) = WA := ⟨_, rfl⟩
  obtain ⟨gA, hgA⟩ : ∃ gA, w1.heap.size = gA := ⟨_, rfl⟩
  have hA : Arr WA gA 32 [.slice aT 2 cT, .slice aP 1 cP] := by rw [← hWA, ← hgA]; exact hA
  rw [hWA] at hkA ⊢
  rw [hgA]
  have HA := Lib.hid hA
  have HKA := Lib.hid (HK.out.trans hkA (by simp))
  have HPA := Lib.hid (HP.out.kept hkA)
  clear hWA hgA hA hkA HK HP
  refine (kflat_any WA).mono ?_
  rintro e w2 ⟨aU, aQ, rfl, hpl, hk2⟩
  have hsh := gshow_good aU aQ 2 1 flT [0] w2 hpl awg_may.1
  unfold planV
  have HSH := Lib.hid hsh
  have HK2 := Lib.hid (HKA.out.trans hk2 (by simp))
  have HA2 := Lib.hid (HA.out.kept hk2 (by simp))
  have HPA2 := Lib.hid (HPA.out.kept hk2)
  clear hpl hk2 hsh HA HKA HPA
  go_wp2_with fail
  refine HSH.out.mono ?_
  rintro e w3 ⟨rfl, hk3⟩
  obtain ⟨bs, hbs⟩ : ∃ bs, (K.showPR flT [0]).1 = bs := ⟨_, rfl⟩
  rw [show K.showPR flT [0] = (bs, 39, 0) from Prod.ext hbs awg_show]
  unfold bitsV
  have HK3 := Lib.hid (HK2.out.trans hk3 (by simp))
  have HA3 := Lib.hid (HA2.out.kept hk3 (by simp))
  have HPA3 := Lib.hid (HPA2.out.kept hk3)
  clear hk3 hbs HK2 HA2 HPA2 HSH
  go_wp2_with fail
  have hkB : Kept [] w3 (w3.alloc (.cells #[.string ⟨bs.toArray⟩, .int .i64 39] 35)) := (Kept.refl _ _).alloc _
  have hB := Arr.new w3 [.string ⟨bs.toArray⟩, .int .i64 39] 35
  obtain ⟨WB, hWB⟩ : ∃ WB, w3.alloc (.cells #[.string ⟨bs.toArray⟩, .int .i64 39] 35) = WB := ⟨_, rfl⟩
  obtain ⟨gB, hgB⟩ : ∃ gB, w3.heap.size = gB := ⟨_, rfl⟩
  have hB : Arr WB gB 35 [.string ⟨bs.toArray⟩, .int .i64 39] := by rw [← hWB, ← hgB]; exact hB
  rw [hWB] at hkB ⊢
  rw [hgB]
  have HB := Lib.hid hB
  have HKB := Lib.hid (HK3.out.trans hkB (by simp))
  have HAB := Lib.hid (HA3.out.kept hkB (by simp))
  have HPB := Lib.hid (HPA3.out.kept hkB)
  clear hWB hgB hB hkB HK3 HA3 HPA3
  refine (gtables_any 200 WB).mono ?_
  intro e w' hp
  unfold TablesPost at hp
  rw [awg_tab] at hp
  obtain ⟨rfl, rfl⟩ := hp
  go_wp2_with fail
  refine (kflat_any WB).mono ?_
  rintro e w4 ⟨aU2, aQ2, rfl, hpl, hk4⟩
  have hg := gget_good aU2 aQ2 2 1 flT [0] ⟨#[96]⟩ 0 w4 hpl awg_may.1 (by decide)
  rw [awg_get] at hg
  unfold planV at hg ⊢
  have HG := Lib.hid hg
  have HK4 := Lib.hid (HKB.out.trans hk4 (by simp))
  have HA4 := Lib.hid (HAB.out.kept hk4 (by simp))
  have HB4 := Lib.hid (HB.out.kept hk4 (by simp))
  have HP4 := Lib.hid (HPB.out.kept hk4)
  clear hpl hk4 hg HB HKB HAB HPB
  go_wp2_with fail
  refine HG.out.mono ?_
  rintro e w5 ⟨a5, c5, rfl, hrow5, hk5, hf5⟩
  have HR5 := Lib.hid (show Row w5 3 (.slice a5 2 c5) (natVals [0, 2]) from hrow5)
  have HK5 := Lib.hid (HK4.out.trans hk5 (by simp))
  have HA5 := Lib.hid (HA4.out.kept hk5 (by simp))
  have HB5 := Lib.hid (HB4.out.kept hk5 (by simp))
  have HP5 := Lib.hid (HP4.out.kept hk5)
  clear hrow5 hk5 hf5 HK4 HA4 HB4 HP4 HG
  have d0 := HA5.out.cell (i := 0) (u := .slice aT 2 cT) rfl
  have d1 := HA5.out.cell (i := 1) (u := .slice aP 1 cP) rfl
  have d2 := HB5.out.cell (i := 1) (u := .int .i64 39) rfl
  go_wp2_with fail
  have HSM := Lib.hid (fun (W : World) (aU aQ : Option Addr) (h1 : PlanAt W aT aP cT cP flT [0]) (h2 : PlanAt W aU aQ 2 1 flT [0]) => show Calls Try.prog 28 #[.agg #[.slice aT 2 cT, .slice aP 1 cP], .agg #[.slice aU 2 2, .slice aQ 1 1]] W (KBool true W) from by
    have h := same_any aT aP cT cP flT [0] aU aQ 2 1 flT [0] W h1 h2
    rw [sameP_self] at h
    exact h)
  have HIN := Lib.hid (fun (W : World) (hk : Kept [] w5 W) => show Calls Try.prog 21 #[.slice a5 2 c5, .slice (some ⟨W.heap.size, 0, none⟩) 2 2] (W.alloc (.cells #[.int .i64 0, .int .i64 2] 3)) (fun e w' => e = .returned (.bool true) ∧ Kept [] w5 w') from by
    have hkk := hk.alloc (.cells #[.int .i64 0, .int .i64 2] 3)
    have h1 := (HR5.out.kept hkk (by simp)).seeA
    have h := ints_ok a5 (some ⟨W.heap.size, 0, none⟩) c5 2 [0, 2] [0, 2] (W.alloc (.cells #[.int .i64 0, .int .i64 2] 3)) h1 (Sees.lit (news := intVals [0, 2]) rfl) (by decide)
    refine h.mono ?_
    rintro e w9 ⟨rfl, h9⟩
    exact ⟨by simp, hkk.trans h9 (by simp)⟩)
  go_region_held3 (fun w' => Kept [] w5 w' ∧ w'.cell? ⟨gA, 0, none⟩ = some (.slice aT 2 cT) ∧ w'.cell? ⟨gA, 1, none⟩ = some (.slice aP 1 cP) ∧ w'.cell? ⟨gB, 1, none⟩ = some (.int .i64 39))
    (first | exact ⟨(Kept.refl _ _).drew, d0, d1, d2⟩ | exact ⟨hk9, hk9.cellOf d0 (by simp), hk9.cellOf d1 (by simp), hk9.cellOf d2 (by simp)⟩ | exact ⟨hk7.alloc _, (hk7.alloc _).cellOf d0 (by simp), (hk7.alloc _).cellOf d1 (by simp), (hk7.alloc _).cellOf d2 (by simp)⟩ | exact ⟨hk7, hk7.cellOf d0 (by simp), hk7.cellOf d1 (by simp), hk7.cellOf d2 (by simp)⟩ | exact ⟨hk6, hk6.cellOf d0 (by simp), hk6.cellOf d1 (by simp), hk6.cellOf d2 (by simp)⟩)
    (first | (go_at_call 36; refine (kflat_any _).mono ?_; rintro e w6 ⟨aU3, aQ3, rfl, hpl6, hk6⟩; have hk6 : Kept [] w5 w6 := (Kept.refl [] w5).drew.trans hk6 (by simp); unfold planV) | (go_at_call 28; refine (HSM.out _ _ _ (HP5.out.kept hk6) hpl6).mono ?_; rintro e w7 ⟨rfl, hk7⟩; have hk7 : Kept [] w5 w7 := hk6.trans hk7 (by simp)) | (go_at_call 21; refine (HIN.out w7 hk7).mono ?_; rintro e w9 ⟨rfl, hk9⟩))
  go_wp2_with fail
  go_ret
  exact ⟨rfl, HK5.out.trans hk9 (by simp)⟩
end Go.Proofs.Ytdaenajhgbagdaa
