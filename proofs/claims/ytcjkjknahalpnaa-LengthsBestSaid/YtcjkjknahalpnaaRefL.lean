/-
  The walks of kistref08: May, greatest.
-/
import Derived.Test.YtcjkjknahalpnaaLenB
namespace Go.Proofs.Ytcjkjknahalpnaa
open Go.RowKit
set_option linter.unusedVariables false
set_option linter.unusedSimpArgs false

theorem wrmay_any (a : Option Addr) (c : Nat) (xs : List Int) (w : World) (h : Sees w 1 a xs.length (intVals xs)) (hl : xs.length ≤ 17592186043904) :
    Calls Try.prog 26 #[.slice a xs.length c] w (BoolPost (mayL xs) w) := by
  have HS := Lib.hid h
  clear h
  go_enter Try.func26, Try.ntmps26
  go_wp2_with fail
  go_loopg [3] xs.length (fun k v wr => ∃ i : Nat, i ≤ xs.length ∧ k = xs.length - i ∧ v = .int .i64 (i : Nat) ∧ Hid (∀ x ∈ xs.take i, 0 ≤ x ∧ x ≤ 1073741824) ∧ w = wr)
  case atStart => exact ⟨0, by omega, by omega, rfl, Lib.hid (by simp), rfl⟩
  case round =>
    obtain ⟨i, hi, hk, rfl, HM, rfl⟩ := hrel
    have Hk := Lib.hid hk
    clear hk
    by_cases hlt : i < xs.length
    · have hli : (i : Int) < (xs.length : Int) := by omega
      obtain ⟨x, hx⟩ : ∃ x, xs[i]? = some x := ⟨_, List.getElem?_eq_getElem hlt⟩
      obtain ⟨b, off, rfl, -⟩ := HS.out.at (by rw [intVals_length]; omega)
      have d0 := HS.out.int hx
      have HX := Lib.hid hx
      clear hx
      by_cases hbad : x < 0 ∨ 1073741824 < x
      · have HNO := Lib.hid (show mayL xs = false by
          rw [Bool.eq_false_iff]; intro hh
          unfold mayL at hh
          rw [Bool.and_eq_true, List.all_eq_true] at hh
          have := hh.2 x (List.mem_of_getElem? HX.out)
          rw [decide_eq_true_eq] at this
          omega)
        by_cases h1 : x < 0
        · have g1 : decide (x < 0) = true := by simp; omega
          go_wp2_with fail
          go_ret
          exact ⟨by rw [HNO.out]; rfl, rfl⟩
        · have g1 : decide (x < 0) = false := by simp; omega
          have g2 : decide (1073741824 < x) = true := by simp; omega
          go_wp2_with fail
          go_ret
          exact ⟨by rw [HNO.out]; rfl, rfl⟩
      · have g1 : decide (x < 0) = false := by simp; omega
        have g2 : decide (1073741824 < x) = false := by simp; omega
        go_wp2_with fail
        go_roundg (xs.length - (i + 1))
        case measure => have := Hk.out; omega
        case rel =>
          refine ⟨i + 1, by omega, rfl, by simp, Lib.hid fun y hy => ?_, rfl⟩
          rcases take_mem HX.out hy with h' | h'
          · exact HM.out y h'
          · omega
    · obtain rfl : i = xs.length := by omega
      have hll : ¬ (xs.length : Int) < (xs.length : Int) := by omega
      have hall : (xs.all fun x => decide (0 ≤ x ∧ x ≤ 1073741824)) = true := by
        rw [List.all_eq_true]; intro x hx
        rw [decide_eq_true_eq]
        exact HM.out x (by rw [List.take_of_length_le (Nat.le_refl _)]; exact hx)
      have HA := Lib.hid hall
      clear hall
      by_cases h2 : 2 ≤ xs.length
      · have g1 : decide (2 ≤ (xs.length : Int)) = true := by simp; omega
        have G4 := Lib.hid (show mayL xs = decide ((xs.length : Int) ≤ 258) by
          unfold mayL; rw [HA.out, decide_eq_true h2, Bool.true_and, Bool.and_true]
          exact decide_eq_decide.2 (by omega))
        go_wp2_with fail
        go_ret
        exact ⟨by rw [G4.out]; rfl, rfl⟩
      · have g1 : decide (2 ≤ (xs.length : Int)) = false := by simp; omega
        have G4 := Lib.hid (show mayL xs = false by unfold mayL; rw [decide_eq_false h2, Bool.false_and, Bool.false_and])
        go_wp2_with fail
        go_ret
        exact ⟨by rw [G4.out]; rfl, rfl⟩

theorem greatest_any (a : Option Addr) (c : Nat) (xs : List Int) (w : World) (h : Sees w 1 a xs.length (intVals xs)) (h0 : 1 ≤ xs.length) (hl : xs.length ≤ 1000000) :
    Calls Try.prog 28 #[.slice a xs.length c] w (MaxPost xs w) := by
  have HS := Lib.hid h
  obtain ⟨b, off, rfl, -⟩ := h.at (by rw [intVals_length]; omega)
  obtain ⟨x0, hx0⟩ : ∃ x, xs[0]? = some x := ⟨_, List.getElem?_eq_getElem (by omega)⟩
  have c0 := HS.out.int hx0
  have hpos : (0 : Int) < (xs.length : Int) := by omega
  have HX0 := Lib.hid hx0
  rw [Nat.add_zero] at c0
  clear h hx0
  go_enter Try.func28, Try.ntmps28
  go_wp2_with fail
  go_loopg [3, 4] xs.length (fun k v u wr => ∃ (i : Nat) (m : Int), i ≤ xs.length ∧ k = xs.length - i ∧ v = .int .i64 m ∧ u = .int .i64 (i : Nat) ∧ Hid (m ∈ xs ∧ ∀ x ∈ xs.take i, x ≤ m) ∧ w = wr)
  case atStart => exact ⟨0, x0, by omega, by omega, rfl, rfl, Lib.hid ⟨List.mem_of_getElem? HX0.out, by simp⟩, rfl⟩
  case round =>
    obtain ⟨i, m, hi, hk, rfl, rfl, HM, rfl⟩ := hrel
    have Hk := Lib.hid hk
    clear hk
    by_cases hlt : i < xs.length
    · have hli : (i : Int) < (xs.length : Int) := by omega
      obtain ⟨x, hx⟩ : ∃ x, xs[i]? = some x := ⟨_, List.getElem?_eq_getElem hlt⟩
      have d0 := HS.out.int hx
      have HX := Lib.hid hx
      clear hx
      go_wp2_with fail
      all_goals
        rename_i h
        go_roundg (xs.length - (i + 1))
        case measure => have := Hk.out; omega
        case rel =>
          refine ⟨i + 1, _, by omega, rfl, rfl, by simp, Lib.hid ⟨?_, fun y hy => ?_⟩, rfl⟩
          · first
              | exact HM.out.1
              | exact List.mem_of_getElem? HX.out
          · rcases take_mem HX.out hy with h' | h'
            · have := HM.out.2 y h'; omega
            · omega
    · obtain rfl : i = xs.length := by omega
      have hll : ¬ (xs.length : Int) < (xs.length : Int) := by omega
      go_wp2_with fail
      go_ret
      have := HM.out
      rw [List.take_of_length_le (Nat.le_refl _)] at this
      exact ⟨m, rfl, this.1, this.2, rfl⟩
end Go.Proofs.Ytcjkjknahalpnaa
