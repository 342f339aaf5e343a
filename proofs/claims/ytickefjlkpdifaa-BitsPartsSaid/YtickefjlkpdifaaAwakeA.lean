/-
  The walk of kistlaw01's awake: it answers true, and only makes new blocks.
-/
import Derived.Test.YtickefjlkpdifaaWriter
import Derived.Test.YtickefjlkpdifaaUnary
namespace Go.Proofs.Ytickefjlkpdifaa
open Go.RowKit
set_option linter.unusedVariables false
set_option linter.unusedSimpArgs false

theorem awakeA (w : World) : Calls Try.prog 15 #[] w fun e w' => e = .returned (.bool true) ∧ Kept [] w w' := by
  go_enter Try.func15, Try.ntmps15
  go_wp2_with fail
  refine (newWriter_new _).mono ?_
  rintro e w1 ⟨b, rfl, hw, hk1, hb⟩
  go_wp2_with fail
  refine (newReader_new _ _ _ (by decide) (by decide) (by decide)).mono ?_
  rintro e w2 ⟨r, q, rfl, hr, hk2, hrq⟩
  have hr : Rd w2 r q ⟨#[232]⟩ 0 := hr
  have hw2 := hw.kept hk2 (Apart.nil _)
  have ha : Apart [r, q] (b :: foot (.slice none 0 0)) := (Apart.fresh hw.lt hrq).symm
  go_wp2_with fail
  refine (put_put _ _ _ _ _ _ (by decide) (by decide) (by decide) (by decide) (by simp) hw2).mono ?_
  rintro e w3 ⟨rfl, o3, hw3, hk3, hg3⟩
  have hr3 := hr.kept hk3 ha
  have ha3 := ha.grow hr.lt hg3
  go_wp2_with fail
  refine (put_put _ _ _ _ _ _ (by decide) (by decide) (by decide) (by decide) (by decide) hw3).mono ?_
  rintro e w4 ⟨rfl, o4, hw4, hk4, hg4⟩
  have hr4 := hr3.kept hk4 ha3
  have ha4 := ha3.grow hr3.lt hg4
  go_wp2_with fail
  have hu : K.unary 3 0 ((K.bitsOf (ByteArray.mk #[232]).data.toList).drop 0) = (3, 0) := by decide
  refine (unary_ok _ _ _ _ _ _ hr4 (by decide) (by decide) (by decide)).mono ?_
  rintro e w5 h5
  rw [hu] at h5
  obtain ⟨rfl, hr5, hk5⟩ := h5
  have hw5 := hw4.kept hk5 (ha4.sub (by simp)).symm
  have hp : K.pack ([] ++ K.low (Int.toNat 5) (Int.toNat 3) ++ K.low (Int.toNat 1) (Int.toNat 2)) = [168] := by decide
  have hl : (([] ++ K.low (Int.toNat 5) (Int.toNat 3) ++ K.low (Int.toNat 1) (Int.toNat 2)).length : Int) = 5 := by decide
  clear hu
  go_wp2_with fail
  refine (text_ok _ _ _ _ hw5).mono ?_
  rintro e w' ⟨rfl, rfl⟩
  rw [hp]
  go_wp2_with fail
  refine (len_ok _ _ _ _ hw5).mono ?_
  rintro e w' ⟨rfl, rfl⟩
  rw [hl]
  go_wp2_with fail
  refine (at_ok _ _ _ _ _ hr5).mono ?_
  rintro e w' ⟨rfl, rfl⟩
  go_wp2_with fail
  refine (left_ok _ _ _ _ _ hr5 (by decide) (by decide)).mono ?_
  rintro e w6 ⟨rfl, m, rfl⟩
  go_wp2_with fail
  go_ret
  refine ⟨rfl, Kept.drewN ?_ _⟩
  have s1 := hk1.size
  have s2 := hk2.size
  have s3 := hk3.size
  exact (((hk1.new hk2 (by simp [Fresh])).new hk3 hb).new hk4 (hb.grow hg3 (by omega))).new hk5 (fun x hx => Nat.le_trans s1 (hrq x (by simp at hx; simp [hx])))
end Go.Proofs.Ytickefjlkpdifaa
