/-
  The walk of kistlaw08's awake.
-/
import Derived.Test.YtcjkjknahalpnaaLenK
namespace Go.Proofs.Ytcjkjknahalpnaa
open Go.RowKit
set_option linter.unusedVariables false
set_option linter.unusedSimpArgs false

set_option maxHeartbeats 1000000 in
theorem awakeL (w : World) : Calls Try.prog 13 #[] w fun e w' => e = .returned (.bool true) ∧ Kept [] w w' := by
  go_enter Try.func13, Try.ntmps13
  go_wp2_with fail
  have hs0 : Sees (w.alloc (.cells #[.int .i64 5, .int .i64 1, .int .i64 1, .int .i64 1] 3)) 1 (some ⟨w.heap.size, 0, none⟩) 4 (intVals [5, 1, 1, 1]) := Sees.lit (news := intVals [5, 1, 1, 1]) rfl
  have hk0 : Kept [] w (w.alloc (.cells #[.int .i64 5, .int .i64 1, .int .i64 1, .int .i64 1] 3)) := (Kept.refl _ _).alloc _
  generalize w.alloc (.cells #[.int .i64 5, .int .i64 1, .int .i64 1, .int .i64 1] 3) = W0 at hs0 hk0 ⊢
  refine (wmake_any (some ⟨w.heap.size, 0, none⟩) 4 [5, 1, 1, 1] 17 _ W0 hs0 (by decide) ans_5111).mono ?_
  rintro e w1 ⟨a1, c1, rfl, hrow1, hk1, -⟩
  have HK1 := Lib.hid (hk0.new hk1 (by simp [Fresh]))
  have HROW1 := Lib.hid hrow1
  clear hs0 hk0 hk1 hrow1
  go_wp2_with fail
  have hs1 : Sees (w1.alloc (.cells #[.int .i64 1, .int .i64 9, .int .i64 1] 3)) 1 (some ⟨w1.heap.size, 0, none⟩) 3 (intVals [1, 9, 1]) := Sees.lit (news := intVals [1, 9, 1]) rfl
  have hk1 : Kept [] w1 (w1.alloc (.cells #[.int .i64 1, .int .i64 9, .int .i64 1] 3)) := (Kept.refl _ _).alloc _
  generalize w1.alloc (.cells #[.int .i64 1, .int .i64 9, .int .i64 1] 3) = W1 at hs1 hk1 ⊢
  refine (wflat_any (some ⟨w1.heap.size, 0, none⟩) 3 [1, 9, 1] W1 hs1 (by decide)).mono ?_
  rintro e w2 hp
  rw [flat_191] at hp
  obtain ⟨a2, c2, rfl, hrow2, hk2, -⟩ := hp
  have HK2 := Lib.hid ((HK1.out.new hk1 (by simp [Fresh])).new hk2 (by simp [Fresh]))
  have HROW12 := Lib.hid ((HROW1.out.kept hk1 (by simp)).kept hk2 (by simp))
  have HROW2 := Lib.hid hrow2
  clear hs1 hk1 hk2 hrow2 HK1 HROW1
  go_wp2_with fail
  have hsA : Sees (w2.alloc (.cells #[.int .i64 3, .int .i64 1] 3)) 1 (some ⟨w2.heap.size, 0, none⟩) 2 (intVals [3, 1]) := Sees.lit (news := intVals [3, 1]) rfl
  have hkA : Kept [] w2 (w2.alloc (.cells #[.int .i64 3, .int .i64 1] 3)) := (Kept.refl _ _).alloc _
  have hzA : (w2.alloc (.cells #[.int .i64 3, .int .i64 1] 3)).heap.size = w2.heap.size + 1 := by simp
  generalize w2.alloc (.cells #[.int .i64 3, .int .i64 1] 3) = WA at hsA hkA hzA ⊢
  rw [← hzA]
  have hsB : Sees (WA.alloc (.cells #[.int .i64 1, .int .i64 2] 3)) 1 (some ⟨WA.heap.size, 0, none⟩) 2 (intVals [1, 2]) := Sees.lit (news := intVals [1, 2]) rfl
  have hkB : Kept [] WA (WA.alloc (.cells #[.int .i64 1, .int .i64 2] 3)) := (Kept.refl _ _).alloc _
  generalize WA.alloc (.cells #[.int .i64 1, .int .i64 2] 3) = WB at hsB hkB ⊢
  refine (cost_any (some ⟨w2.heap.size, 0, none⟩) (some ⟨WA.heap.size, 0, none⟩) 2 2 [3, 1] [1, 2] WB (hsA.kept0 hkB) (by decide) hsB (by decide)).mono ?_
  rintro e w3 ⟨rfl, rfl⟩
  rw [cost_31.1, cost_31.2]
  have HK3 := Lib.hid ((HK2.out.new hkA (by simp [Fresh])).new hkB (by simp [Fresh]))
  have HROW13 := Lib.hid ((HROW12.out.kept hkA (by simp)).kept hkB (by simp))
  have HROW23 := Lib.hid ((HROW2.out.kept hkA (by simp)).kept hkB (by simp))
  clear hsA hkA hzA hsB hkB HK2 HROW12 HROW2
  go_wp2_with fail
  have hk4 : Kept [] WB (WB.alloc (.cells #[.int .i64 1, .int .i64 3, .int .i64 3, .int .i64 2] 3)) := (Kept.refl _ _).alloc _
  have hs4 : Sees (WB.alloc (.cells #[.int .i64 1, .int .i64 3, .int .i64 3, .int .i64 2] 3)) 1 (some ⟨WB.heap.size, 0, none⟩) 4 (intVals [1, 3, 3, 2]) := Sees.lit (news := intVals [1, 3, 3, 2]) rfl
  have hs3 : Sees WB 1 a1 4 (intVals [1, 3, 3, 2]) := HROW13.out.seeA
  refine (ints_ok a1 _ c1 4 [1, 3, 3, 2] [1, 3, 3, 2] _ (hs3.kept0 hk4) hs4 (by decide)).mono ?_
  rintro e w5 ⟨rfl, hk5⟩
  have hks : Kept [] WB w5 := hk4.new hk5 (by simp [Fresh])
  have HK5 := Lib.hid (HK3.out.new hks (by simp [Fresh]))
  have HROW25 := Lib.hid (HROW23.out.kept hks (by simp))
  clear hk4 hs4 hs3 hk5 hks HK3 HROW13 HROW23
  go_wp2_with fail
  have hk6 : Kept [] w5 (w5.alloc (.cells #[.int .i64 2, .int .i64 1, .int .i64 2] 3)) := (Kept.refl _ _).alloc _
  have hs6 : Sees (w5.alloc (.cells #[.int .i64 2, .int .i64 1, .int .i64 2] 3)) 1 (some ⟨w5.heap.size, 0, none⟩) 3 (intVals [2, 1, 2]) := Sees.lit (news := intVals [2, 1, 2]) rfl
  have hs7 : Sees w5 1 a2 3 (intVals [2, 1, 2]) := HROW25.out.seeA
  refine (ints_ok a2 _ c2 3 [2, 1, 2] [2, 1, 2] _ (hs7.kept0 hk6) hs6 (by decide)).mono ?_
  rintro e w7 ⟨rfl, hk7⟩
  have HK7 := Lib.hid ((HK5.out.new hk6 (by simp [Fresh])).new hk7 (by simp [Fresh]))
  clear hk6 hs6 hs7 hk7 HK5 HROW25
  go_wp2_with fail
  have hs8 : Sees (w7.alloc (.cells #[.int .i64 1, .int .i64 1, .int .i64 1] 3)) 1 (some ⟨w7.heap.size, 0, none⟩) 3 (intVals [1, 1, 1]) := Sees.lit (news := intVals [1, 1, 1]) rfl
  have hk8 : Kept [] w7 (w7.alloc (.cells #[.int .i64 1, .int .i64 1, .int .i64 1] 3)) := (Kept.refl _ _).alloc _
  generalize w7.alloc (.cells #[.int .i64 1, .int .i64 1, .int .i64 1] 3) = W8 at hs8 hk8 ⊢
  refine (check_any _ 3 [1, 1, 1] W8 hs8 (by decide)).mono ?_
  rintro e w8 ⟨rfl, rfl⟩
  rw [check_111]
  have HK8 := Lib.hid (HK7.out.new hk8 (by simp [Fresh]))
  clear hs8 hk8 HK7
  go_wp2_with fail
  have hs9 : Sees (W8.alloc (.cells #[.int .i64 1, .int .i64 1] 3)) 1 (some ⟨W8.heap.size, 0, none⟩) 2 (intVals [1, 1]) := Sees.lit (news := intVals [1, 1]) rfl
  have hk9 : Kept [] W8 (W8.alloc (.cells #[.int .i64 1, .int .i64 1] 3)) := (Kept.refl _ _).alloc _
  generalize W8.alloc (.cells #[.int .i64 1, .int .i64 1] 3) = W9 at hs9 hk9 ⊢
  refine (full_any _ 2 [1, 1] W9 hs9 (by decide)).mono ?_
  rintro e w9 ⟨rfl, rfl⟩
  rw [full_11]
  have HK9 := Lib.hid (HK8.out.new hk9 (by simp [Fresh]))
  clear hs9 hk9 HK8
  go_wp2_with fail
  go_ret
  exact ⟨rfl, HK9.out⟩
end Go.Proofs.Ytcjkjknahalpnaa
