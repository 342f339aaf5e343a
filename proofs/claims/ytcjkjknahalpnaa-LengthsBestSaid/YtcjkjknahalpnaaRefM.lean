/-
  The walk of kistref08.least.
-/
import Derived.Test.YtcjkjknahalpnaaLenD
import Derived.Test.YtcjkjknahalpnaaHufA
import Derived.BigQuiet
namespace Go.Proofs.Ytcjkjknahalpnaa
open Go.RowKit
set_option linter.unusedVariables false
set_option linter.unusedSimpArgs false

theorem Sees.natD {w : World} {b off n i x : Nat} {xs : List Nat} (h : Sees w 1 (some ⟨b, off, none⟩) n (natVals xs)) (hx : xs[i]? = some x) : w.cell? ⟨b, off + i, none⟩ = some (.int .i64 (x : Int)) := by
  rw [natVals_int] at h
  exact h.int (by rw [List.getElem?_map, hx]; rfl)
def leastV : Option Nat → Int
  | none => -1
  | some a => (a : Int)
theorem leastI_lt {W over : List Nat} {k a : Nat} (h : K.leastI W over k = some a) : a < k := by
  rcases K.leastI_spec W over k with ⟨h1, -⟩ | ⟨b, h1, h2⟩
  · rw [h] at h1; exact absurd h1 (by simp)
  · rw [h] at h1; cases h1; exact h2.1


theorem least_any (a1 a2 : Option Addr) (c1 c2 : Nat) (W over : List Nat) (w : World) (h1 : Sees w 1 a1 W.length (natVals W)) (h2 : Sees w 1 a2 W.length (natVals over))
    (hl : over.length = W.length) (hn : W.length ≤ 1000000) :
    Calls Try.prog 37 #[.slice a1 W.length c1, .slice a2 W.length c2] w fun e w' => e = .returned (.int .i64 (leastV (K.leastI W over W.length))) ∧ Kept [] w w' := by
  have HS1 := Lib.hid h1
  have HS2 := Lib.hid h2
  have HL := Lib.hid hl
  clear h1 h2 hl
  go_enter Try.func37, Try.ntmps37
  go_wp2_with fail
  go_loopg [5, 6] W.length (fun k n v wr => ∃ i : Nat, i ≤ W.length ∧ k = W.length - i ∧ n = .int .i64 (leastV (K.leastI W over i)) ∧ v = .int .i64 (i : Nat) ∧ Kept [] w wr)
  case atStart => exact ⟨0, by omega, by omega, rfl, rfl, Kept.refl _ _⟩
  case round =>
    obtain ⟨i, hi, hk, rfl, rfl, hkw⟩ := hrel
    have Hk := Lib.hid hk
    have HKW := Lib.hid hkw
    have HT1 := Lib.hid (HS1.out.kept0 hkw)
    have HT2 := Lib.hid (HS2.out.kept0 hkw)
    clear hk hkw
    by_cases hlt : i < W.length
    · have hli : (i : Int) < (W.length : Int) := by omega
      obtain ⟨x, hx⟩ : ∃ x, W[i]? = some x := ⟨_, List.getElem?_eq_getElem hlt⟩
      obtain ⟨y, hy⟩ : ∃ y, over[i]? = some y := ⟨_, List.getElem?_eq_getElem (by have := HL.out; omega)⟩
      obtain ⟨b1, off1, rfl, -⟩ := HT1.out.at (by rw [natVals_length]; omega)
      obtain ⟨b2, off2, rfl, -⟩ := HT2.out.at (by rw [natVals_length]; have := HL.out; omega)
      have d1 := HT1.out.natD hx
      have d2 := HT2.out.natD hy
      have es : K.leastI W over (i + 1) = (match K.leastI W over i with
        | none => if y = 0 then some i else none
        | some a => if y = 0 ∧ x < W.getD a 0 then some i else some a) := by
        rw [K.leastI]
        simp only [List.getD_eq_getElem?_getD, hx, hy, Option.getD_some]
        cases K.leastI W over i <;> rfl
      have ES := Lib.hid es
      clear hx hy es
      have hwl : W.length ≤ 1000000 := hn
      by_cases hy0 : y = 0
      · subst hy0
        rcases Option.eq_none_or_eq_some (K.leastI W over i) with hn | ⟨a, ha⟩
        · have ES2 := Lib.hid (show K.leastI W over (i + 1) = some i by rw [ES.out, hn]; exact if_pos rfl)
          rw [hn]
          clear hn ES
          unfold leastV
          go_wp2_with fail
          go_quiet (fail)
          go_wp2_with fail
          go_roundg (W.length - (i + 1))
          case measure => have := Hk.out; omega
          case rel => exact ⟨i + 1, by omega, rfl, by rw [ES2.out]; rfl, by simp, HKW.out.drewN _⟩
        · have hai := leastI_lt ha
          obtain ⟨z, hz⟩ : ∃ z, W[a]? = some z := ⟨_, List.getElem?_eq_getElem (by omega)⟩
          have d3 := HT1.out.natD hz
          have hai2 : (a : Int) < (W.length : Int) := by omega
          have gz : W.getD a 0 = z := by rw [List.getD_eq_getElem?_getD, hz]; rfl
          have EZ : Hid (K.leastI W over (i + 1) = if x < z then some i else some a) := Lib.hid (by
            rw [ES.out, ha]
            show (if (0 : Nat) = 0 ∧ x < W.getD a 0 then some i else some a) = _
            rw [gz]
            by_cases h : x < z
            · rw [if_pos ⟨rfl, h⟩, if_pos h]
            · rw [if_neg (fun k => h k.2), if_neg h])
          rw [ha]
          clear ha gz hz ES
          unfold leastV
          have g0 : decide ((a : Int) < 0) = false := by simp
          by_cases hxz : x < z
          · have g1 : decide ((x : Int) < (z : Int)) = true := by simp; omega
            have ES2 := Lib.hid (EZ.out.trans (if_pos hxz))
            go_wp2_with fail
            go_quiet (fail)
            go_wp2_with fail
            go_roundg (W.length - (i + 1))
            case measure => have := Hk.out; omega
            case rel => exact ⟨i + 1, by omega, rfl, by rw [ES2.out]; rfl, by simp, HKW.out.drewN _⟩
          · have g1 : decide ((x : Int) < (z : Int)) = false := by simp; omega
            have ES2 := Lib.hid (EZ.out.trans (if_neg hxz))
            go_wp2_with fail
            go_quiet (fail)
            go_wp2_with fail
            go_roundg (W.length - (i + 1))
            case measure => have := Hk.out; omega
            case rel => exact ⟨i + 1, by omega, rfl, by rw [ES2.out]; rfl, by simp, HKW.out.drewN _⟩
      · have g0 : decide ((y : Int) = 0) = false := by simp; omega
        have ES2 := Lib.hid (show K.leastI W over (i + 1) = K.leastI W over i by
          rw [ES.out]
          cases K.leastI W over i with
          | none => exact if_neg hy0
          | some a => exact if_neg fun h => hy0 h.1)
        have ES3 : leastV (K.leastI W over (i + 1)) = leastV (K.leastI W over i) := by rw [ES2.out]
        clear ES2 ES
        generalize leastV (K.leastI W over i) = lv at ES3 ⊢
        have ES4 := Lib.hid ES3
        clear ES3
        have g0' : ((y : Int) == 0) = false := by simp; omega
        go_wp2_with fail
        go_quiet (fail)
        go_wp2_with fail
        go_roundg (W.length - (i + 1))
        case measure => have := Hk.out; omega
        case rel => exact ⟨i + 1, by omega, rfl, by rw [ES4.out], by simp, HKW.out.drewN _⟩
    · obtain rfl : i = W.length := by omega
      have hll : ¬ (W.length : Int) < (W.length : Int) := by omega
      go_wp2_with fail
      go_ret
      exact ⟨rfl, HKW.out⟩
end Go.Proofs.Ytcjkjknahalpnaa
