/-
  bwt.Back and kistref05.Back whatever is asked; the walk of kistlaw05's awake.
-/
import Derived.Test.YtaeppgooenbfiaaBwtD
import Derived.Test.YtaeppgooenbfiaaAwakeR
namespace Go.Proofs.Ytaeppgooenbfiaa
open Go.RowKit Go.Sort
set_option linter.unusedVariables false
set_option linter.unusedSimpArgs false

/-- What Back answers. -/
def backA (s : ByteArray) (row : Int) : List UInt8 × Nat :=
  if 262144 < s.size then ([], 3) else if row < 0 ∨ (s.size : Int) ≤ row then ([], 50) else (toB (K.readB (K.firstR s.data.toList) (K.stab (K.firstR s.data.toList) 256) s.size row.toNat), 0)

set_option maxRecDepth 100000 in
theorem back_any (s : ByteArray) (row : Int) (w : World) (hs : s.size ≤ 140737488351232) : Calls Try.prog 27 #[.string s, .int .i64 row] w (TextPost (backA s row) w) := by
  unfold backA
  by_cases hb : 262144 < s.size
  · have g1 : decide (262144 < (s.size : Int)) = true := by simp; omega
    rw [if_pos hb]
    clear hb
    go_enter Try.func27, Try.ntmps27
    go_wp2_with fail
    go_ret2
    exact ⟨rfl, Kept.refl _ _⟩
  · have g1 : decide (262144 < (s.size : Int)) = false := by simp; omega
    rw [if_neg hb]
    by_cases hr : row < 0
    · have g2 : decide (row < 0) = true := decide_eq_true hr
      rw [if_pos (.inl hr)]
      clear hb
      go_enter Try.func27, Try.ntmps27
      go_wp2_with fail
      go_ret2
      exact ⟨rfl, Kept.refl _ _⟩
    · obtain ⟨r, rfl⟩ := Int.eq_ofNat_of_zero_le (show 0 ≤ row by omega)
      by_cases hge : s.size ≤ r
      · have g3 : (s.size : Int) ≤ (r : Int) := by omega
        rw [if_pos (.inr g3)]
        clear hb hr
        go_enter Try.func27, Try.ntmps27
        go_wp2_with fail
        go_ret2
        exact ⟨rfl, Kept.refl _ _⟩
      · rw [if_neg (by omega), Int.toNat_natCast]
        exact back_in s r w (by omega) (by omega)

set_option maxRecDepth 100000 in
theorem rback_any (s : ByteArray) (row : Int) (w : World) (hs : s.size ≤ 140737488351232) : Calls Try.prog 28 #[.string s, .int .i64 row] w (TextPost (backA s row) w) := by
  unfold backA
  by_cases hb : 262144 < s.size
  · have g1 : decide (262144 < (s.size : Int)) = true := by simp; omega
    rw [if_pos hb]
    clear hb
    go_enter Try.func28, Try.ntmps28
    go_wp2_with fail
    go_ret2
    exact ⟨rfl, Kept.refl _ _⟩
  · have g1 : decide (262144 < (s.size : Int)) = false := by simp; omega
    rw [if_neg hb]
    by_cases hr : row < 0
    · have g2 : decide (row < 0) = true := decide_eq_true hr
      rw [if_pos (.inl hr)]
      clear hb
      go_enter Try.func28, Try.ntmps28
      go_wp2_with fail
      go_ret2
      exact ⟨rfl, Kept.refl _ _⟩
    · obtain ⟨r, rfl⟩ := Int.eq_ofNat_of_zero_le (show 0 ≤ row by omega)
      by_cases hge : s.size ≤ r
      · have g3 : (s.size : Int) ≤ (r : Int) := by omega
        rw [if_pos (.inr g3)]
        clear hb hr
        go_enter Try.func28, Try.ntmps28
        go_wp2_with fail
        go_ret2
        exact ⟨rfl, Kept.refl _ _⟩
      · rw [if_neg (by omega), Int.toNat_natCast]
        exact rback_in s r w (by omega) (by omega)

theorem banana_last : toB (K.lastC 6 (K.fS [98, 97, 110, 97, 110, 97]) [5, 3, 1, 0, 4, 2]) = [110, 110, 98, 97, 97, 97] := by decide +kernel
theorem ab_back : backA ⟨#[97, 98]⟩ 1 = ([98, 98], 0) := by decide +kernel

set_option maxRecDepth 100000 in
set_option maxHeartbeats 1000000 in
theorem awakeB (w : World) : Calls Try.prog 24 #[] w fun e w' => e = .returned (.bool true) ∧ Kept [] w w' := by
  go_enter Try.func24, Try.ntmps24
  go_wp2_with fail
  refine (forward_in ⟨#[98, 97, 110, 97, 110, 97]⟩ _ (by decide) (by decide) (sort_small _ (by decide))).mono ?_
  rintro e w1 ⟨L, hO, rfl, hk1⟩
  obtain rfl := banana_ord L hO
  rw [show toB (K.lastC (ByteArray.size ⟨#[98, 97, 110, 97, 110, 97]⟩) (K.fS (ByteArray.data ⟨#[98, 97, 110, 97, 110, 97]⟩).toList) [5, 3, 1, 0, 4, 2]) = [110, 110, 98, 97, 97, 97] from banana_last, show List.idxOf 0 [5, 3, 1, 0, 4, 2] = 3 from by decide]
  have HK1 := Lib.hid hk1
  clear hO hk1
  go_wp2_with fail
  refine (back_any ⟨#[97, 98]⟩ 1 _ (by decide)).mono ?_
  rw [ab_back]
  rintro e w2 ⟨rfl, hk2⟩
  have HK2 := Lib.hid (HK1.out.new hk2 (by simp [Fresh]))
  clear hk2
  go_wp2_with fail
  go_ret
  exact ⟨rfl, HK2.out⟩
end Go.Proofs.Ytaeppgooenbfiaa
