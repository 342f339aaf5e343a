/-
  What Choose answers, whatever it is handed.
-/
import Derived.Test.YtdaenajhgbagdaaGrpL
namespace Go.Proofs.Ytdaenajhgbagdaa
open Go.RowKit
set_option linter.unusedVariables false
set_option linter.unusedSimpArgs false

theorem castI_natsOf (xs : List Int) (h : ∀ s ∈ xs, 0 ≤ s) : castI (K.natsOf xs) = xs := by
  unfold castI K.natsOf
  rw [List.map_map]
  conv => rhs; rw [← List.map_id xs]
  apply List.map_congr_left
  intro s hs
  have := h s hs
  simp
  omega
/-- What Choose answers: tables, picks, error. -/
noncomputable def chooseR (xs : List Int) (n : Int) : List (List Int) × List Int × Nat :=
  if K.mayListL xs n then ((K.tabsC (K.natsOf xs) n.toNat (K.tablesR (xs.length : Int)).1 4).map castI, castI (K.picksC (K.natsOf xs) n.toNat (K.tablesR (xs.length : Int)).1 4), 0) else ([], [], 2)
theorem gchoose_any (a : Option Addr) (c : Nat) (xs : List Int) (n : Int) (w : World) (h : Sees w 1 a xs.length (intVals xs)) (hc : xs.length ≤ c) (hcm : c ≤ maxLen) (hl : xs.length ≤ 10000) :
    Calls Try.prog 29 #[.slice a xs.length c, .int .i64 n] w (PlanPost (chooseR xs n).1 (chooseR xs n).2.1 (chooseR xs n).2.2 w) := by
  cases hm : K.mayListL xs n with
  | false =>
    have e : chooseR xs n = ([], [], 2) := by unfold chooseR; rw [hm]; rfl
    rw [e]
    exact gchoose_bad a c xs n w h (by omega) hm
  | true =>
    obtain ⟨-, h3, h258, -, -, hall⟩ := cnt_may hm
    have e := castI_natsOf xs (fun s hs => (hall s hs).1)
    obtain ⟨n, rfl⟩ := Int.eq_ofNat_of_zero_le (show 0 ≤ n by omega)
    obtain ⟨L, hL⟩ : ∃ L, K.natsOf xs = L := ⟨_, rfl⟩
    rw [hL] at e
    subst e
    have e2 : chooseR (castI L) (n : Int) = ((K.tabsC L n (K.tablesR (L.length : Int)).1 4).map castI, castI (K.picksC L n (K.tablesR (L.length : Int)).1 4), 0) := by
      unfold chooseR
      rw [hm, if_pos rfl, hL, castI_length, Int.toNat_natCast]
    rw [e2]
    rw [castI_length] at h hc hl ⊢
    rw [castI_vals] at h
    exact gchoose_good a c n L w h hc hcm hm hl
theorem rchooseG_any (a : Option Addr) (c : Nat) (xs : List Int) (n : Int) (w : World) (h : Sees w 1 a xs.length (intVals xs)) (hc : xs.length ≤ c) (hcm : c ≤ maxLen) (hl : xs.length ≤ 10000) :
    Calls Try.prog 30 #[.slice a xs.length c, .int .i64 n] w (PlanPost (chooseR xs n).1 (chooseR xs n).2.1 (chooseR xs n).2.2 w) := by
  cases hm : K.mayListL xs n with
  | false =>
    have e : chooseR xs n = ([], [], 2) := by unfold chooseR; rw [hm]; rfl
    rw [e]
    exact rchooseG_bad a c xs n w h (by omega) hm
  | true =>
    obtain ⟨-, h3, h258, -, -, hall⟩ := cnt_may hm
    have e := castI_natsOf xs (fun s hs => (hall s hs).1)
    obtain ⟨n, rfl⟩ := Int.eq_ofNat_of_zero_le (show 0 ≤ n by omega)
    obtain ⟨L, hL⟩ : ∃ L, K.natsOf xs = L := ⟨_, rfl⟩
    rw [hL] at e
    subst e
    have e2 : chooseR (castI L) (n : Int) = ((K.tabsC L n (K.tablesR (L.length : Int)).1 4).map castI, castI (K.picksC L n (K.tablesR (L.length : Int)).1 4), 0) := by
      unfold chooseR
      rw [hm, if_pos rfl, hL, castI_length, Int.toNat_natCast]
    rw [e2]
    rw [castI_length] at h hc hl ⊢
    rw [castI_vals] at h
    exact rchooseG_good a c n L w h hc hcm hm hl
end Go.Proofs.Ytdaenajhgbagdaa
