/-
  The walks of lengths.Cost and kistref08.Cost.
-/
import Derived.Test.YtcjkjknahalpnaaRefL
import Derived.BigQuiet
namespace Go.Proofs.Ytcjkjknahalpnaa
open Go.RowKit
set_option linter.unusedVariables false
set_option linter.unusedSimpArgs false

/-- What the first i lengths cost. -/
def dotI (ws ls : List Int) : Nat → Int
  | 0 => 0
  | i + 1 => dotI ws ls i + ws.getD i 0 * ls.getD i 0
/-- A length that Cost takes. -/
def costOk (ws ls : List Int) : Bool := mayL ws && decide (ls.length = ws.length) && ls.all fun x => decide (0 ≤ x ∧ x ≤ 20)
def costN (ws ls : List Int) : Int := if costOk ws ls then dotI ws ls ls.length else 0
def costE (ws ls : List Int) : Int := if costOk ws ls then 0 else 2

theorem mayL_get {ws : List Int} (h : mayL ws = true) : 2 ≤ ws.length ∧ ws.length ≤ 258 ∧ ∀ x ∈ ws, 0 ≤ x ∧ x ≤ 1073741824 := by
  unfold mayL at h
  rw [Bool.and_eq_true, Bool.and_eq_true, List.all_eq_true, decide_eq_true_eq, decide_eq_true_eq] at h
  exact ⟨h.1.1, h.1.2, fun x hx => by have := h.2 x hx; rwa [decide_eq_true_eq] at this⟩
theorem dot_mul {x y : Int} (h : 0 ≤ x ∧ x ≤ 1073741824) (h' : 0 ≤ y ∧ y ≤ 20) : 0 ≤ x * y ∧ x * y ≤ 21474836480 := by
  refine ⟨Int.mul_nonneg h.1 h'.1, ?_⟩
  have := Int.mul_le_mul h.2 h'.2 h'.1 (by omega : (0 : Int) ≤ 1073741824)
  omega

def CostPost (ws ls : List Int) (w : World) (e : Ending) (w' : World) : Prop := e = .returned (.tuple #[.int .i64 (costN ws ls), .int .i64 (costE ws ls)]) ∧ w = w'

theorem cost_any (a1 a2 : Option Addr) (c1 c2 : Nat) (ws ls : List Int) (w : World) (h1 : Sees w 1 a1 ws.length (intVals ws)) (hl1 : ws.length ≤ 17592186043904)
    (h2 : Sees w 1 a2 ls.length (intVals ls)) (hl2 : ls.length ≤ 17592186043904) :
    Calls Try.prog 20 #[.slice a1 ws.length c1, .slice a2 ls.length c2] w (CostPost ws ls w) := by
  have M := wmay_any a1 c1 ws w h1 hl1
  have HS1 := Lib.hid h1
  have HS2 := Lib.hid h2
  clear h1 h2
  go_enter Try.func20, Try.ntmps20
  go_wp2_with fail
  refine M.mono ?_
  rintro e w' ⟨rfl, rfl⟩
  by_cases hm : mayL ws = true
  · by_cases hl : ls.length = ws.length
    · have gl : decide ((ls.length : Int) = (ws.length : Int)) = true := by simp; omega
      rw [hm]
      obtain ⟨k2, k3, hall⟩ := mayL_get hm
      have HALL := Lib.hid hall
      have HM := Lib.hid hm
      clear hall hm
      go_wp2_with fail
      go_loopg [6, 21] ls.length (fun k n v wr => ∃ i : Nat, i ≤ ls.length ∧ k = ls.length - i ∧ n = .int .i64 (dotI ws ls i) ∧ v = .int .i64 (i : Nat) ∧ Hid (∀ x ∈ ls.take i, 0 ≤ x ∧ x ≤ 20) ∧ (0 ≤ dotI ws ls i ∧ dotI ws ls i ≤ i * 21474836480) ∧ w = wr)
      case atStart => exact ⟨0, by omega, by omega, rfl, rfl, Lib.hid (by simp), by simp [dotI], rfl⟩
      case round =>
        obtain ⟨i, hi, hk, rfl, rfl, HA, hd, rfl⟩ := hrel
        have Hk := Lib.hid hk
        have HD := Lib.hid hd
        clear hk hd
        by_cases hlt : i < ls.length
        · have hli : (i : Int) < (ls.length : Int) := by omega
          have hliw : (i : Int) < (ws.length : Int) := by omega
          obtain ⟨x, hx⟩ : ∃ x, ls[i]? = some x := ⟨_, List.getElem?_eq_getElem hlt⟩
          obtain ⟨y, hy⟩ : ∃ y, ws[i]? = some y := ⟨_, List.getElem?_eq_getElem (by omega)⟩
          obtain ⟨b1, off1, rfl, -⟩ := HS1.out.at (by rw [intVals_length]; omega)
          obtain ⟨b2, off2, rfl, -⟩ := HS2.out.at (by rw [intVals_length]; omega)
          have d1 := HS1.out.int hy
          have d2 := HS2.out.int hx
          have HX := Lib.hid hx
          have HY := Lib.hid hy
          clear hx hy
          by_cases hbad : x < 0 ∨ 20 < x
          · have HNO := Lib.hid (show costOk ws ls = false by
              rw [Bool.eq_false_iff]; intro hh
              unfold costOk at hh
              rw [Bool.and_eq_true, List.all_eq_true] at hh
              have := hh.2 x (List.mem_of_getElem? HX.out)
              rw [decide_eq_true_eq] at this
              omega)
            by_cases h1 : x < 0
            · have g1 : decide (x < 0) = true := by simp; omega
              go_wp2_with fail
              go_ret2
              exact ⟨by unfold costN costE; rw [HNO.out]; rfl, rfl⟩
            · have g1 : decide (x < 0) = false := by simp; omega
              have g2 : decide (20 < x) = true := by simp; omega
              go_wp2_with fail
              go_ret2
              exact ⟨by unfold costN costE; rw [HNO.out]; rfl, rfl⟩
          · have g1 : decide (x < 0) = false := by simp; omega
            have g2 : decide (20 < x) = false := by simp; omega
            have hy2 := HALL.out y (List.mem_of_getElem? HY.out)
            have hm2 := dot_mul hy2 (⟨by omega, by omega⟩ : 0 ≤ x ∧ x ≤ 20)
            have hs : dotI ws ls (i + 1) = dotI ws ls i + y * x := by
              rw [dotI, List.getD_eq_getElem?_getD, List.getD_eq_getElem?_getD, HX.out, HY.out]; rfl
            have hd := HD.out
            have e1 : IntKind.i64.wrap (y * x) = y * x := IntWalk.i64_in _ (by omega)
            have e2 : IntKind.i64.wrap (dotI ws ls i + y * x) = dotI ws ls (i + 1) := by rw [hs]; exact IntWalk.i64_in _ (by omega)
            have hb : 0 ≤ dotI ws ls (i + 1) ∧ dotI ws ls (i + 1) ≤ ((i + 1 : Nat) : Int) * 21474836480 := by rw [hs]; push_cast; omega
            have HB := Lib.hid hb
            clear hd hm2 hy2 hb hs
            go_wp2_with fail
            go_roundg (ls.length - (i + 1))
            case measure => have := Hk.out; omega
            case rel =>
              refine ⟨i + 1, by omega, rfl, by first | rw [e2] | rfl, by simp, Lib.hid fun y hy => ?_, HB.out, rfl⟩
              rcases take_mem HX.out hy with h' | h'
              · exact HA.out y h'
              · omega
        · obtain rfl : i = ls.length := by omega
          have hll : ¬ (ls.length : Int) < (ls.length : Int) := by omega
          have HC := Lib.hid (show costOk ws ls = true by
            unfold costOk; rw [HM.out, decide_eq_true hl, Bool.true_and, Bool.true_and, List.all_eq_true]
            intro x hx; rw [decide_eq_true_eq]; exact HA.out x (by rw [List.take_of_length_le (Nat.le_refl _)]; exact hx))
          go_wp2_with fail
          go_ret2
          exact ⟨by unfold costN costE; rw [HC.out, if_pos rfl, if_pos rfl, hl]; rfl, rfl⟩
    · have gl : decide ((ls.length : Int) = (ws.length : Int)) = false := by simp; omega
      have HC := Lib.hid (show costOk ws ls = false by unfold costOk; rw [decide_eq_false hl, Bool.and_false, Bool.false_and])
      rw [hm]
      go_wp2_with fail
      go_ret2
      exact ⟨by unfold costN costE; rw [HC.out]; rfl, rfl⟩
  · have hm' : mayL ws = false := by simpa using hm
    have HC := Lib.hid (show costOk ws ls = false by unfold costOk; rw [hm', Bool.false_and, Bool.false_and])
    rw [hm']
    go_wp2_with fail
    go_ret2
    exact ⟨by unfold costN costE; rw [HC.out]; rfl, rfl⟩

theorem rcost_any (a1 a2 : Option Addr) (c1 c2 : Nat) (ws ls : List Int) (w : World) (h1 : Sees w 1 a1 ws.length (intVals ws)) (hl1 : ws.length ≤ 17592186043904)
    (h2 : Sees w 1 a2 ls.length (intVals ls)) (hl2 : ls.length ≤ 17592186043904) :
    Calls Try.prog 21 #[.slice a1 ws.length c1, .slice a2 ls.length c2] w fun e w' => e = .returned (.tuple #[.int .i64 (costN ws ls), .int .i64 (costE ws ls)]) ∧ Kept [] w w' := by
  have M := wrmay_any a1 c1 ws w h1 hl1
  have HS1 := Lib.hid h1
  have HS2 := Lib.hid h2
  clear h1 h2
  go_enter Try.func21, Try.ntmps21
  go_wp2_with fail
  refine M.mono ?_
  rintro e w' ⟨rfl, rfl⟩
  by_cases hm : mayL ws = true
  · by_cases hl : ls.length = ws.length
    · have gl : decide ((ls.length : Int) = (ws.length : Int)) = true := by simp; omega
      rw [hm]
      obtain ⟨k2, k3, hall⟩ := mayL_get hm
      have HALL := Lib.hid hall
      have HM := Lib.hid hm
      clear hall hm
      go_wp2_with fail
      go_loopg [6, 7] ls.length (fun k n v wr => ∃ i : Nat, i ≤ ls.length ∧ k = ls.length - i ∧ n = .int .i64 (dotI ws ls i) ∧ v = .int .i64 (i : Nat) ∧ Hid (∀ x ∈ ls.take i, 0 ≤ x ∧ x ≤ 20) ∧ (0 ≤ dotI ws ls i ∧ dotI ws ls i ≤ i * 21474836480) ∧ Kept [] w wr)
      case atStart => exact ⟨0, by omega, by omega, rfl, rfl, Lib.hid (by simp), by simp [dotI], Kept.refl _ _⟩
      case round =>
        obtain ⟨i, hi, hk, rfl, rfl, HA, hd, hkw⟩ := hrel
        have HKW := Lib.hid hkw
        have HT1 := Lib.hid (HS1.out.kept0 hkw)
        have HT2 := Lib.hid (HS2.out.kept0 hkw)
        clear hkw
        have Hk := Lib.hid hk
        have HD := Lib.hid hd
        clear hk hd
        by_cases hlt : i < ls.length
        · have hli : (i : Int) < (ls.length : Int) := by omega
          have hliw : (i : Int) < (ws.length : Int) := by omega
          obtain ⟨x, hx⟩ : ∃ x, ls[i]? = some x := ⟨_, List.getElem?_eq_getElem hlt⟩
          obtain ⟨y, hy⟩ : ∃ y, ws[i]? = some y := ⟨_, List.getElem?_eq_getElem (by omega)⟩
          obtain ⟨b1, off1, rfl, -⟩ := HT1.out.at (by rw [intVals_length]; omega)
          obtain ⟨b2, off2, rfl, -⟩ := HT2.out.at (by rw [intVals_length]; omega)
          have d1 := HT1.out.int hy
          have d2 := HT2.out.int hx
          have HX := Lib.hid hx
          have HY := Lib.hid hy
          clear hx hy
          by_cases hbad : x < 0 ∨ 20 < x
          · have HNO := Lib.hid (show costOk ws ls = false by
              rw [Bool.eq_false_iff]; intro hh
              unfold costOk at hh
              rw [Bool.and_eq_true, List.all_eq_true] at hh
              have := hh.2 x (List.mem_of_getElem? HX.out)
              rw [decide_eq_true_eq] at this
              omega)
            by_cases h1 : x < 0
            · have g1 : decide (x < 0) = true := by simp; omega
              go_wp2_with fail
              go_ret2
              exact ⟨by unfold costN costE; rw [HNO.out]; rfl, HKW.out⟩
            · have g1 : decide (x < 0) = false := by simp; omega
              have g2 : decide (20 < x) = true := by simp; omega
              go_wp2_with fail
              go_ret2
              exact ⟨by unfold costN costE; rw [HNO.out]; rfl, HKW.out⟩
          · have g1 : decide (x < 0) = false := by simp; omega
            have g2 : decide (20 < x) = false := by simp; omega
            have hy2 := HALL.out y (List.mem_of_getElem? HY.out)
            have hm2 := dot_mul hy2 (⟨by omega, by omega⟩ : 0 ≤ x ∧ x ≤ 20)
            have hs : dotI ws ls (i + 1) = dotI ws ls i + y * x := by
              rw [dotI, List.getD_eq_getElem?_getD, List.getD_eq_getElem?_getD, HX.out, HY.out]; rfl
            have hd := HD.out
            have e1 : IntKind.i64.wrap (y * x) = y * x := IntWalk.i64_in _ (by omega)
            have e2 : IntKind.i64.wrap (dotI ws ls i + y * x) = dotI ws ls (i + 1) := by rw [hs]; exact IntWalk.i64_in _ (by omega)
            have hb : 0 ≤ dotI ws ls (i + 1) ∧ dotI ws ls (i + 1) ≤ ((i + 1 : Nat) : Int) * 21474836480 := by rw [hs]; push_cast; omega
            have HB := Lib.hid hb
            clear hd hm2 hy2 hb hs
            go_wp2_with fail
            go_quiet (fail)
            go_wp2_with fail
            go_roundg (ls.length - (i + 1))
            case measure => have := Hk.out; omega
            case rel =>
              refine ⟨i + 1, by omega, rfl, by first | rw [e2] | rfl, by simp, Lib.hid fun y hy => ?_, HB.out, HKW.out.drewN _⟩
              rcases take_mem HX.out hy with h' | h'
              · exact HA.out y h'
              · omega
        · obtain rfl : i = ls.length := by omega
          have hll : ¬ (ls.length : Int) < (ls.length : Int) := by omega
          have HC := Lib.hid (show costOk ws ls = true by
            unfold costOk; rw [HM.out, decide_eq_true hl, Bool.true_and, Bool.true_and, List.all_eq_true]
            intro x hx; rw [decide_eq_true_eq]; exact HA.out x (by rw [List.take_of_length_le (Nat.le_refl _)]; exact hx))
          go_wp2_with fail
          go_ret2
          exact ⟨by unfold costN costE; rw [HC.out, if_pos rfl, if_pos rfl, hl]; rfl, HKW.out⟩
    · have gl : decide ((ls.length : Int) = (ws.length : Int)) = false := by simp; omega
      have HC := Lib.hid (show costOk ws ls = false by unfold costOk; rw [decide_eq_false hl, Bool.and_false, Bool.false_and])
      rw [hm]
      go_wp2_with fail
      go_ret2
      exact ⟨by unfold costN costE; rw [HC.out]; rfl, Kept.refl _ _⟩
  · have hm' : mayL ws = false := by simpa using hm
    have HC := Lib.hid (show costOk ws ls = false by unfold costOk; rw [hm', Bool.false_and, Bool.false_and])
    rw [hm']
    go_wp2_with fail
    go_ret2
    exact ⟨by unfold costN costE; rw [HC.out]; rfl, Kept.refl _ _⟩
end Go.Proofs.Ytcjkjknahalpnaa
