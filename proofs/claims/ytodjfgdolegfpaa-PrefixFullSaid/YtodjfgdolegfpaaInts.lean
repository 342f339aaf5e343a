/-
  The walk of kistlaw04's Ints: are two lists the same?
-/
import Derived.Test.YtodjfgdolegfpaaLibB
import Derived.Test.YtodjfgdolegfpaaRefA
import Derived.BigQuiet
namespace Go.Proofs.Ytodjfgdolegfpaa
open Go.RowKit
set_option linter.unusedVariables false
set_option linter.unusedSimpArgs false

def intVals (xs : List Int) : List Value := xs.map (Value.int .i64)
theorem intVals_length (xs : List Int) : (intVals xs).length = xs.length := by simp [intVals]
theorem intVals_get (xs : List Int) (i : Nat) (x : Int) (h : xs[i]? = some x) : (intVals xs)[i]? = some (.int .i64 x) := by simp [intVals, h]

/-- In Ints' loop: the first i are the same. -/
def IntsI (w0 : World) (xs ys : List Int) (k : Nat) (c : Value) (w : World) : Prop :=
  ∃ i, i ≤ xs.length ∧ k = xs.length - i ∧ c = .int .i64 (i : Nat) ∧ xs.take i = ys.take i ∧ Kept [] w0 w

theorem ints_ok (a b : Option Addr) (ca cb : Nat) (xs ys : List Int) (w : World) (ha : Sees w 1 a xs.length (intVals xs)) (hb : Sees w 1 b ys.length (intVals ys)) (hl : xs.length ≤ 140737488351232) :
    Calls Try.prog 12 #[.slice a xs.length ca, .slice b ys.length cb] w fun e w' => e = .returned (.bool (decide (xs = ys))) ∧ Kept [] w w' := by
  by_cases hne : xs.length = ys.length
  · have hni : (xs.length : Int) = (ys.length : Int) := by omega
    have HA := Lib.hid ha
    have HB := Lib.hid hb
    have HN := Lib.hid hne
    clear ha hb hne
    go_enter Try.func12, Try.ntmps12
    go_wp2_with fail
    go_loopg [5] xs.length (fun k c wr => IntsI w xs ys k c wr)
    case atStart => exact ⟨0, by omega, by omega, rfl, by simp, Kept.refl _ _⟩
    case round =>
      obtain ⟨i, hi, hk, rfl, hpre, hkept⟩ := hrel
      have Hk := Lib.hid hk
      have HP := Lib.hid hpre
      have HKE := Lib.hid hkept
      clear hk hpre
      by_cases hlt : i < xs.length
      · obtain ⟨b0, off, rfl, hcells⟩ := (HA.out.kept0 hkept).at (by rw [intVals_length]; omega)
        obtain ⟨b1, off1, rfl, hcells1⟩ := (HB.out.kept0 hkept).at (by rw [intVals_length]; have := HN.out; omega)
        obtain ⟨x, hx⟩ : ∃ x, xs[i]? = some x := ⟨_, List.getElem?_eq_getElem hlt⟩
        obtain ⟨y, hy⟩ : ∃ y, ys[i]? = some y := ⟨_, List.getElem?_eq_getElem (by have := HN.out; omega)⟩
        have c0 := hcells _ _ (intVals_get xs i _ hx)
        have c1 := hcells1 _ _ (intVals_get ys i _ hy)
        have hjl : (i : Int) < (xs.length : Int) := by omega
        have hjl2 : (i : Int) < (ys.length : Int) := by omega
        have ex : xs.take (i + 1) = xs.take i ++ [x] := by rw [List.take_add_one, hx]; rfl
        have ey : ys.take (i + 1) = ys.take i ++ [y] := by rw [List.take_add_one, hy]; rfl
        have EX := Lib.hid ex
        have EY := Lib.hid ey
        have HX := Lib.hid hx
        have HY := Lib.hid hy
        clear hcells hcells1 hx hy ex ey hkept
        by_cases hxy : x = y
        · subst hxy
          go_wp2_with fail
          go_quiet (fail)
          go_wp2_with fail
          go_roundg (xs.length - (i + 1))
          case measure => have := Hk.out; omega
          case rel => exact ⟨i + 1, by omega, rfl, by go_num, by rw [EX.out, EY.out, HP.out], HKE.out.drewN _⟩
        · go_wp2_with fail
          go_quiet (fail)
          go_wp2_with fail
          go_ret
          refine ⟨?_, HKE.out.drewN _⟩
          have : xs ≠ ys := fun h => by
            have h1 := HX.out
            rw [h, HY.out] at h1
            exact hxy (Option.some.inj h1).symm
          simp [this]
      · obtain rfl : i = xs.length := by omega
        clear hkept
        go_wp2_with fail
        go_ret
        refine ⟨?_, HKE.out⟩
        have h1 := HP.out
        rw [List.take_of_length_le (Nat.le_refl _), List.take_of_length_le (by have := HN.out; omega)] at h1
        simp [h1]
  · have hni : ¬ (xs.length : Int) = (ys.length : Int) := by omega
    have hxy : xs ≠ ys := fun h => hne (by rw [h])
    go_enter Try.func12, Try.ntmps12
    go_wp2_with fail
    go_ret
    exact ⟨by simp [hxy], Kept.refl _ _⟩
end Go.Proofs.Ytodjfgdolegfpaa
