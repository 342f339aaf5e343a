/-
  The walks of lengths.Full, kistref08.Full.
-/
import Derived.Test.YtcjkjknahalpnaaLenC
namespace Go.Proofs.Ytcjkjknahalpnaa
open Go.RowKit
set_option linter.unusedVariables false
set_option linter.unusedSimpArgs false

/-- Whether lengths are full. -/
def fullL (xs : List Int) : Bool := decide (sumR xs = 1048576)
theorem fullL_room (xs : List Int) : fullL xs = decide (roomR xs = 1048576) := by
  unfold fullL
  have hg := sumR_good xs
  apply decide_eq_decide.2
  constructor
  · intro h
    have : K.goodL xs = true := by rw [hg, h]; decide
    unfold roomR
    rw [this, if_pos rfl]
    unfold sumR at h
    split at h
    · rw [h]; rfl
    · simp at h
  · intro h
    unfold roomR at h
    split at h
    · rename_i hk
      rw [hk] at hg
      have h2 := hg.symm
      rw [Bool.and_eq_true, decide_eq_true_eq, decide_eq_true_eq] at h2
      unfold sumR at h2 ⊢
      split
      · omega
      · rename_i hn
        rw [if_neg hn] at h2
        exact absurd rfl h2.1
    · omega
theorem full_any (a : Option Addr) (cap : Nat) (xs : List Int) (w : World) (h : Sees w 1 a xs.length (intVals xs)) (hlen : xs.length ≤ 17592186043904) :
    Calls Try.prog 18 #[.slice a xs.length cap] w (BoolPost (fullL xs) w) := by
  have M := sum_any a cap xs w h (by omega)
  clear h
  go_enter Try.func18, Try.ntmps18
  go_wp2_with fail
  refine M.mono ?_
  rintro e w' ⟨rfl, rfl⟩
  have g : decide (((sumR xs : Nat) : Int) = 1048576) = fullL xs := decide_eq_decide.2 (by omega)
  have G := Lib.hid g
  clear g
  go_wp2_with fail
  go_ret
  exact ⟨by rw [← G.out]; rfl, rfl⟩
theorem rfull_any (a : Option Addr) (cap : Nat) (xs : List Int) (w : World) (h : Sees w 1 a xs.length (intVals xs)) (hlen : xs.length ≤ 17592186043904) :
    Calls Try.prog 19 #[.slice a xs.length cap] w (BoolPost (fullL xs) w) := by
  have M := rroom_any a cap xs w h (by omega)
  have G := Lib.hid (fullL_room xs)
  clear h
  go_enter Try.func19, Try.ntmps19
  go_wp2_with fail
  refine M.mono ?_
  rintro e w' ⟨rfl, rfl⟩
  go_wp2_with fail
  go_ret
  exact ⟨by rw [G.out]; rfl, rfl⟩
end Go.Proofs.Ytcjkjknahalpnaa
