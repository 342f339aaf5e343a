/-
  The walks of slices.Min, slices.Max, lengths.may and kistref08.May.
-/
import Derived.Test.YtodjfgdolegfpaaLenA
import Derived.Test.YtodjfgdolegfpaaLibF
import Derived.Test.YtodjfgdolegfpaaSymB
namespace Go.Proofs.Ytodjfgdolegfpaa
open Go.RowKit
set_option linter.unusedVariables false
set_option linter.unusedSimpArgs false

def MinPost (xs : List Int) (w : World) (e : Ending) (w' : World) : Prop := ∃ m : Int, e = .returned (.int .i64 m) ∧ m ∈ xs ∧ (∀ x ∈ xs, m ≤ x) ∧ w = w'
def MaxPost (xs : List Int) (w : World) (e : Ending) (w' : World) : Prop := ∃ m : Int, e = .returned (.int .i64 m) ∧ m ∈ xs ∧ (∀ x ∈ xs, x ≤ m) ∧ w = w'
theorem take_mem {xs : List Int} {k : Nat} {x y : Int} (hx : xs[k]? = some x) (h : y ∈ xs.take (k + 1)) : y ∈ xs.take k ∨ y = x := by
  rw [List.take_add_one, hx] at h
  rcases List.mem_append.1 h with h | h
  · exact .inl h
  · exact .inr (by simpa using h)
theorem mem_take {xs : List Int} {k : Nat} {y : Int} (h : y ∈ xs.take k) : y ∈ xs := List.mem_of_mem_take h

theorem min_any (a : Option Addr) (c : Nat) (xs : List Int) (w : World) (h : Sees w 1 a xs.length (intVals xs)) (h0 : 1 ≤ xs.length) (hl : xs.length ≤ 1000000) :
    Calls Try.prog 50 #[.slice a xs.length c] w (MinPost xs w) := by
  have HS := Lib.hid h
  obtain ⟨b, off, rfl, -⟩ := h.at (by rw [intVals_length]; omega)
  obtain ⟨x0, hx0⟩ : ∃ x, xs[0]? = some x := ⟨_, List.getElem?_eq_getElem (by omega)⟩
  have c0 := HS.out.int hx0
  have g0 : decide ((xs.length : Int) < 1) = false := by simp; omega
  have hpos : (0 : Int) < (xs.length : Int) := by omega
  have HX0 := Lib.hid hx0
  rw [Nat.add_zero] at c0
  clear h hx0
  go_enter Try.func50, Try.ntmps50
  go_wp2_with fail
  go_loopg [3, 4] (xs.length - 1) (fun k v u wr => ∃ (i : Nat) (m : Int), 1 ≤ i ∧ i ≤ xs.length ∧ k = xs.length - i ∧ v = .int .i64 m ∧ u = .int .i64 (i : Nat) ∧ Hid (m ∈ xs ∧ ∀ x ∈ xs.take i, m ≤ x) ∧ w = wr)
  case atStart => exact ⟨1, x0, Nat.le_refl _, h0, by omega, rfl, rfl, Lib.hid ⟨List.mem_of_getElem? HX0.out, fun x hx => by
    rcases take_mem HX0.out hx with h | h
    · simp at h
    · omega⟩, rfl⟩
  case round =>
    obtain ⟨i, m, h1, hi, hk, rfl, rfl, HM, rfl⟩ := hrel
    have Hk := Lib.hid hk
    clear hk
    by_cases hlt : i < xs.length
    · have hli : (i : Int) < (xs.length : Int) := by omega
      obtain ⟨x, hx⟩ : ∃ x, xs[i]? = some x := ⟨_, List.getElem?_eq_getElem hlt⟩
      have d0 := HS.out.int hx
      have HX := Lib.hid hx
      clear hx
      go_wp2_with fail
      all_goals
        rename_i h
        go_roundg (xs.length - (i + 1))
        case measure => have := Hk.out; omega
        case rel =>
          refine ⟨i + 1, _, by omega, by omega, rfl, rfl, by simp, Lib.hid ⟨?_, fun y hy => ?_⟩, rfl⟩
          · first
              | exact HM.out.1
              | exact List.mem_of_getElem? HX.out
          · rcases take_mem HX.out hy with h' | h'
            · have := HM.out.2 y h'; omega
            · omega
    · obtain rfl : i = xs.length := by omega
      have hll : ¬ (xs.length : Int) < (xs.length : Int) := by omega
      go_wp2_with fail
      go_ret
      have := HM.out
      rw [List.take_of_length_le (Nat.le_refl _)] at this
      exact ⟨m, rfl, this.1, this.2, rfl⟩
theorem max_any (a : Option Addr) (c : Nat) (xs : List Int) (w : World) (h : Sees w 1 a xs.length (intVals xs)) (h0 : 1 ≤ xs.length) (hl : xs.length ≤ 1000000) :
    Calls Try.prog 42 #[.slice a xs.length c] w (MaxPost xs w) := by
  have HS := Lib.hid h
  obtain ⟨b, off, rfl, -⟩ := h.at (by rw [intVals_length]; omega)
  obtain ⟨x0, hx0⟩ : ∃ x, xs[0]? = some x := ⟨_, List.getElem?_eq_getElem (by omega)⟩
  have c0 := HS.out.int hx0
  have g0 : decide ((xs.length : Int) < 1) = false := by simp; omega
  have hpos : (0 : Int) < (xs.length : Int) := by omega
  have HX0 := Lib.hid hx0
  rw [Nat.add_zero] at c0
  clear h hx0
  go_enter Try.func42, Try.ntmps42
  go_wp2_with fail
  go_loopg [3, 4] (xs.length - 1) (fun k v u wr => ∃ (i : Nat) (m : Int), 1 ≤ i ∧ i ≤ xs.length ∧ k = xs.length - i ∧ v = .int .i64 m ∧ u = .int .i64 (i : Nat) ∧ Hid (m ∈ xs ∧ ∀ x ∈ xs.take i, x ≤ m) ∧ w = wr)
  case atStart => exact ⟨1, x0, Nat.le_refl _, h0, by omega, rfl, rfl, Lib.hid ⟨List.mem_of_getElem? HX0.out, fun x hx => by
    rcases take_mem HX0.out hx with h | h
    · simp at h
    · omega⟩, rfl⟩
  case round =>
    obtain ⟨i, m, h1, hi, hk, rfl, rfl, HM, rfl⟩ := hrel
    have Hk := Lib.hid hk
    clear hk
    by_cases hlt : i < xs.length
    · have hli : (i : Int) < (xs.length : Int) := by omega
      obtain ⟨x, hx⟩ : ∃ x, xs[i]? = some x := ⟨_, List.getElem?_eq_getElem hlt⟩
      have d0 := HS.out.int hx
      have HX := Lib.hid hx
      clear hx
      go_wp2_with fail
      all_goals
        rename_i h
        go_roundg (xs.length - (i + 1))
        case measure => have := Hk.out; omega
        case rel =>
          refine ⟨i + 1, _, by omega, by omega, rfl, rfl, by simp, Lib.hid ⟨?_, fun y hy => ?_⟩, rfl⟩
          · first
              | exact HM.out.1
              | exact List.mem_of_getElem? HX.out
          · rcases take_mem HX.out hy with h' | h'
            · have := HM.out.2 y h'; omega
            · omega
    · obtain rfl : i = xs.length := by omega
      have hll : ¬ (xs.length : Int) < (xs.length : Int) := by omega
      go_wp2_with fail
      go_ret
      have := HM.out
      rw [List.take_of_length_le (Nat.le_refl _)] at this
      exact ⟨m, rfl, this.1, this.2, rfl⟩

/-- Weights that may be. -/
def mayL (xs : List Int) : Bool := decide (2 ≤ xs.length) && decide (xs.length ≤ 258) && xs.all fun x => decide (0 ≤ x ∧ x ≤ 1073741824)
def BoolPost (b : Bool) (w : World) (e : Ending) (w' : World) : Prop := e = .returned (.bool b) ∧ w = w'

theorem mayL_of {xs : List Int} (h2 : 2 ≤ xs.length) (h3 : xs.length ≤ 258) (lo hi : Int) (hlo : lo ∈ xs) (hhi : hi ∈ xs) (h4 : ∀ x ∈ xs, lo ≤ x) (h5 : ∀ x ∈ xs, x ≤ hi) :
    mayL xs = (decide (0 ≤ lo) && decide (hi ≤ 1073741824)) := by
  unfold mayL
  rw [decide_eq_true h2, decide_eq_true h3, Bool.true_and, Bool.true_and, Bool.eq_iff_iff, List.all_eq_true, Bool.and_eq_true, decide_eq_true_eq, decide_eq_true_eq]
  constructor
  · intro h
    have a := h lo hlo
    have b := h hi hhi
    rw [decide_eq_true_eq] at a b
    omega
  · intro h x hx
    have a := h4 x hx
    have b := h5 x hx
    rw [decide_eq_true_eq]
    omega

theorem wmay_any (a : Option Addr) (c : Nat) (xs : List Int) (w : World) (h : Sees w 1 a xs.length (intVals xs)) (hl : xs.length ≤ 17592186043904) :
    Calls Try.prog 39 #[.slice a xs.length c] w (BoolPost (mayL xs) w) := by
  by_cases h2 : 2 ≤ xs.length
  · have g1 : decide (2 ≤ (xs.length : Int)) = true := by simp; omega
    by_cases h3 : xs.length ≤ 258
    · have g2 : decide ((xs.length : Int) ≤ 258) = true := by simp; omega
      have A := min_any a c xs w h (by omega) (by omega)
      have B := max_any a c xs w h (by omega) (by omega)
      clear h
      go_enter Try.func39, Try.ntmps39
      go_wp2_with fail
      refine A.mono ?_
      rintro e w' ⟨lo, rfl, hlo, h4, rfl⟩
      have H4 := Lib.hid (And.intro hlo h4)
      clear hlo h4
      by_cases h5 : 0 ≤ lo
      · have g3 : decide (0 ≤ lo) = true := by simp; omega
        go_wp2_with fail
        refine B.mono ?_
        rintro e w' ⟨hi, rfl, hhi, h6, rfl⟩
        have H5 := Lib.hid (And.intro hhi h6)
        clear hhi h6
        have g4 : mayL xs = decide (hi ≤ 1073741824) := by
          rw [mayL_of h2 h3 lo hi H4.out.1 H5.out.1 H4.out.2 H5.out.2, g3, Bool.true_and]
        have G4 := Lib.hid g4
        clear g4
        go_wp2_with fail
        go_ret
        exact ⟨by rw [G4.out]; rfl, rfl⟩
      · have g3 : decide (0 ≤ lo) = false := by simp; omega
        have g4 : mayL xs = false := by
          rw [Bool.eq_false_iff]; intro hh
          unfold mayL at hh
          rw [Bool.and_eq_true, List.all_eq_true] at hh
          have := hh.2 lo H4.out.1
          rw [decide_eq_true_eq] at this
          omega
        have G4 := Lib.hid g4
        clear g4
        go_wp2_with fail
        go_ret
        exact ⟨by rw [G4.out]; rfl, rfl⟩
    · have g2 : decide ((xs.length : Int) ≤ 258) = false := by simp; omega
      have G4 := Lib.hid (show mayL xs = false by unfold mayL; rw [decide_eq_false h3, Bool.and_false, Bool.false_and])
      go_enter Try.func39, Try.ntmps39
      go_wp2_with fail
      go_ret
      exact ⟨by rw [G4.out]; rfl, rfl⟩
  · have g1 : decide (2 ≤ (xs.length : Int)) = false := by simp; omega
    have G4 := Lib.hid (show mayL xs = false by unfold mayL; rw [decide_eq_false h2, Bool.false_and, Bool.false_and])
    go_enter Try.func39, Try.ntmps39
    go_wp2_with fail
    go_ret
    exact ⟨by rw [G4.out]; rfl, rfl⟩
end Go.Proofs.Ytodjfgdolegfpaa
