/-
  The walk of kistlaw04's awake.
-/
import Derived.Test.YtaeppgooenbfiaaRotF
import Derived.Test.YtaeppgooenbfiaaRotG
namespace Go.Proofs.Ytaeppgooenbfiaa
open Go.RowKit Go.Sort
set_option linter.unusedVariables false
set_option linter.unusedSimpArgs false

theorem banana_ord (L : List Nat) (h : K.Ordered 6 (K.fS [98, 97, 110, 97, 110, 97]) 6 L) : L = [5, 3, 1, 0, 4, 2] :=
  h.one ⟨by decide +kernel, by decide +kernel⟩
theorem banana_idx (r : Int) (h : IndexP [5, 3, 1, 0, 4, 2] 0 r) : r = 3 := by
  rcases h with ⟨i, rfl, h1, h2⟩ | ⟨-, h⟩
  · match i, h1 with
    | 0, h1 => cases h1
    | 1, h1 => cases h1
    | 2, h1 => cases h1
    | 3, h1 => rfl
    | 4, h1 => cases h1
    | 5, h1 => cases h1
  · exact absurd (by decide) h
theorem abab_per (r : Nat) (h : PerP [97, 98, 97, 98] r) : r = 2 := by
  have h2 : isPer [97, 98, 97, 98] 2 := ⟨by decide, by decide⟩
  have h1 : ¬ isPer [97, 98, 97, 98] 1 := fun h => absurd h.2 (by decide)
  rcases h with ⟨a, b, c, d⟩ | ⟨-, d⟩
  · by_cases hr : r = 1
    · subst hr; exact absurd c h1
    · by_cases hr2 : 2 < r
      · exact absurd h2 (d 2 (by omega) hr2)
      · omega
  · exact absurd h2 (d 2 (by omega) (by simp))

set_option maxRecDepth 100000 in
set_option maxHeartbeats 1000000 in
theorem awakeR (w : World) : Calls Try.prog 17 #[] w fun e w' => e = .returned (.bool true) ∧ Kept [] w w' := by
  go_enter Try.func17, Try.ntmps17
  go_wp2_with fail
  refine (rank_in ⟨#[98, 97, 110, 97, 110, 97]⟩ 0 _ (by decide) (by decide) (sort_small _ (by decide))).mono ?_
  rintro e w1 ⟨⟨L, r, hO, hI, rfl⟩, hk1⟩
  obtain rfl := banana_ord L hO
  obtain rfl := banana_idx r hI
  have HK1 := Lib.hid hk1
  clear hO hI hk1
  go_wp2_with fail
  refine (order_any ⟨#[98, 97, 110, 97, 110, 97]⟩ _ (by decide) (sort_small _ (by decide))).mono ?_
  rintro e w2 ⟨g, L2, rfl, hO2, hrow2, hk2⟩
  obtain rfl := banana_ord L2 hO2
  have HR2 := Lib.hid hrow2.seeA
  have HK2 := Lib.hid (HK1.out.new hk2 (by simp [Fresh]))
  clear hO2 hrow2 hk2
  go_wp2_with fail
  have hk3 : Kept [] w2 (w2.alloc (.cells #[.int .i64 5, .int .i64 3, .int .i64 1, .int .i64 0, .int .i64 4, .int .i64 2] 3)) := (Kept.refl _ _).alloc _
  have hs3 : Sees (w2.alloc (.cells #[.int .i64 5, .int .i64 3, .int .i64 1, .int .i64 0, .int .i64 4, .int .i64 2] 3)) 1 (some ⟨w2.heap.size, 0, none⟩) 6 (intVals [5, 3, 1, 0, 4, 2]) := Sees.lit (news := intVals [5, 3, 1, 0, 4, 2]) rfl
  have hs2 : Sees w2 1 (some ⟨g, 0, none⟩) 6 (intVals [5, 3, 1, 0, 4, 2]) := HR2.out
  refine (ints_ok (some ⟨g, 0, none⟩) _ _ 6 [5, 3, 1, 0, 4, 2] [5, 3, 1, 0, 4, 2] _ (hs2.kept0 hk3) hs3 (by decide)).mono ?_
  rintro e w3 ⟨rfl, hk4⟩
  have HK3 := Lib.hid ((HK2.out.new hk3 (by simp [Fresh])).new hk4 (by simp [Fresh]))
  clear hk3 hs3 hs2 hk4
  go_wp2_with fail
  refine (period_any ⟨#[97, 98, 97, 98]⟩ _ (by decide)).mono ?_
  rintro e w4 ⟨⟨r, rfl, hP⟩, hk5⟩
  obtain rfl := abab_per r hP
  have HK4 := Lib.hid (HK3.out.new hk5 (by simp [Fresh]))
  clear hP hk5
  go_wp2_with fail
  go_ret
  exact ⟨rfl, HK4.out⟩
end Go.Proofs.Ytaeppgooenbfiaa
