/-
  The walks of the reference of layer 10 that tell: Put, Show.
-/
import Derived.Test.YtdaenajhgbagdaaPlainA
import Derived.Test.YtdaenajhgbagdaaWriteA
import Derived.Test.YtdaenajhgbagdaaSliceR
namespace Go.Proofs.Ytdaenajhgbagdaa
open Go.RowKit
set_option linter.unusedVariables false
set_option linter.unusedSimpArgs false

/-- In Put's first loop: i lengths are in range. -/
def RPutA (w0 : World) (xs : List Int) (k : Nat) (c : Value) (w : World) : Prop :=
  ∃ i, i ≤ xs.length ∧ k = xs.length - i ∧ c = .int .i64 (i : Nat) ∧ ((xs.take i).all fun x => decide (1 ≤ x ∧ x ≤ 20)) = true ∧ Kept [] w0 w
/-- In its second: i lengths are told. -/
def RPutI (w0 : World) (xs : List Int) (k : Nat) (v c : Value) (w : World) : Prop :=
  ∃ i now B, i ≤ xs.length ∧ k = xs.length - i ∧ c = .int .i64 (i : Nat) ∧ (1 ≤ now ∧ now ≤ 20) ∧ xs[i - 1]? = some now ∧ K.showBits xs = B ++ K.showFrom now (xs.drop i) ∧ Row w 3 v (bis B) ∧ Kept [] w0 w ∧ Fresh w0.heap.size (foot v)
/-- In the loops within: q steps are told. -/
def RPutU (w0 : World) (T : List Bool) (x : Int) (rest : List Bool) (m : Nat) (y : Nat → Int) (k : Nat) (v c : Value) (w : World) : Prop :=
  ∃ q B, q ≤ m ∧ k = m - q ∧ c = .int .i64 (q : Nat) ∧ T = B ++ (K.stepBits (y q) x ++ rest) ∧ Row w 3 v (bis B) ∧ Kept [] w0 w ∧ Fresh w0.heap.size (foot v)

/-- What Put leaves. -/
def RPutPost (xs : List Int) (w : World) (e : Ending) (w' : World) : Prop :=
  (K.lensOk xs = false → e = .returned (.tuple #[.slice none 0 0, .int .i64 80])) ∧
  (K.lensOk xs = true → ∃ a c, e = .returned (.tuple #[.slice a (K.showBits xs).length c, .int .i64 0]) ∧ Row w' 3 (.slice a (K.showBits xs).length c) (bis (K.showBits xs))) ∧ Kept [] w w'

set_option maxHeartbeats 1000000 in
theorem rput_any (a : Option Addr) (cap : Nat) (xs : List Int) (w : World) (h : Sees w 1 a xs.length (intVals xs)) (hlen : xs.length ≤ 140737488351232) :
    Calls Try.prog 82 #[.slice a xs.length cap] w (RPutPost xs w) := by
  have HS := Lib.hid h
  clear h
  go_enter Try.func82, Try.ntmps82
  go_wp2_with fail
  go_loopg [4] xs.length (fun k c wr => RPutA w xs k c wr)
  case atStart => exact ⟨0, by omega, by omega, rfl, rfl, Kept.refl _ _⟩
  case round =>
    obtain ⟨i, hi, hk, rfl, hall, hkept⟩ := hrel
    have Hk := Lib.hid hk
    have HALL := Lib.hid hall
    have HKE := Lib.hid hkept
    clear hk hall
    by_cases hlt : i < xs.length
    · obtain ⟨b0, off, rfl, hcells⟩ := (HS.out.kept0 hkept).at (by rw [intVals_length]; omega)
      obtain ⟨x, hx⟩ : ∃ x, xs[i]? = some x := ⟨_, List.getElem?_eq_getElem hlt⟩
      have c0 := hcells _ _ (intVals_get xs i _ hx)
      have hjl : (i : Int) < (xs.length : Int) := by omega
      have ex : xs.take (i + 1) = xs.take i ++ [x] := by rw [List.take_add_one, hx]; rfl
      have EX := Lib.hid ex
      have HX := Lib.hid hx
      clear hcells hx ex hkept
      by_cases hgood : 1 ≤ x ∧ x ≤ 20
      · have g1 : decide (x < 1) = false := by simp; omega
        have g2 : decide (20 < x) = false := by simp; omega
        go_wp2_with fail
        go_roundg (xs.length - (i + 1))
        case measure => have := Hk.out; omega
        case rel => exact ⟨i + 1, by omega, rfl, by go_num, by rw [EX.out, List.all_append, HALL.out]; simp; exact hgood, HKE.out⟩
      · have hno := K.lensOk_bad xs i x HX.out (by omega)
        have HNO := Lib.hid hno
        clear hno
        by_cases h1 : x < 1
        · have g1 : decide (x < 1) = true := by simp; omega
          go_wp2_with fail
          go_ret2
          exact ⟨fun _ => rfl, fun h => by (rw [HNO.out] at h; cases h), HKE.out⟩
        · have g1 : decide (x < 1) = false := by simp; omega
          have g2 : decide (20 < x) = true := by simp; omega
          go_wp2_with fail
          go_ret2
          exact ⟨fun _ => rfl, fun h => by (rw [HNO.out] at h; cases h), HKE.out⟩
    · obtain rfl : i = xs.length := by omega
      clear hkept
      by_cases hL : 2 ≤ xs.length ∧ xs.length ≤ 258
      · have g1 : decide ((xs.length : Int) < 2) = false := by simp; omega
        have g2 : decide (258 < (xs.length : Int)) = false := by simp; omega
        have hok : K.lensOk xs = true := by
          have h1 := HALL.out
          rw [List.take_of_length_le (Nat.le_refl _)] at h1
          unfold K.lensOk
          rw [h1]; simp; exact hL
        have hin := ((K.lensOk_iff xs).1 hok).2
        obtain ⟨x0, hx0⟩ : ∃ x, xs[0]? = some x := ⟨_, List.getElem?_eq_getElem (by omega)⟩
        have hhd : xs.headD 0 = x0 := by cases xs with
          | nil => simp at hx0
          | cons y ys => simpa using hx0
        have hxr := hin x0 (List.mem_of_getElem? hx0)
        have hsb := K.showBits_len xs hok
        have hst : K.showBits xs = K.low x0.toNat 5 ++ K.showFrom x0 (xs.drop 0) := by unfold K.showBits; rw [hhd]; rfl
        obtain ⟨v0, rfl⟩ := Int.eq_ofNat_of_zero_le (show 0 ≤ x0 by omega)
        rw [Int.toNat_natCast] at hst
        obtain ⟨b0, off, rfl, -⟩ := (HS.out).at (by rw [intVals_length]; omega)
        have c0 := (HS.out.kept0 HKE.out).int hx0
        rw [Nat.add_zero] at c0
        have hjl : (0 : Int) < (xs.length : Int) := by omega
        have hw0 : IntKind.u64.wrap (v0 : Int) = (v0 : Int) := by rw [IntKind.wrap_u64]; omega
        have HOK := Lib.hid hok
        have HST := Lib.hid hst
        have HIN := Lib.hid hin
        have HX0 := Lib.hid hx0
        clear hst hok hin hhd hx0
        go_wp2_with fail
        refine (refBits_ok v0 5 _ (by decide) (by omega)).mono ?_
        rintro e w1 ⟨g, rfl, hrow1, hk1, hg1⟩
        have hk1' := HKE.out.new hk1 (by simp [Fresh])
        have hf1 : Fresh w.heap.size (foot (.slice (some ⟨g, 0, none⟩) 5 5)) := by
          intro y hy
          simp [foot, Value.ownBlock] at hy
          subst hy
          exact Nat.le_trans HKE.out.size hg1
        clear hk1 c0
        go_wp2_with fail
        go_loopg [5, 7] xs.length (fun k v c wr => RPutI w xs k v c wr)
        case atStart => exact ⟨0, v0, _, by omega, by omega, rfl, hxr, HX0.out, HST.out, hrow1, hk1', hf1⟩
        case round =>
          obtain ⟨i, now, B, hi, hk, rfl, hnow, hprev, hT, hrow, hkept, hfr⟩ := hrel
          have Hk2 := Lib.hid hk
          have HT := Lib.hid hT
          clear hk hT hrow1 hk1' hf1
          by_cases hlt : i < xs.length
          · obtain ⟨x, hx⟩ : ∃ x, xs[i]? = some x := ⟨_, List.getElem?_eq_getElem hlt⟩
            have c1 := (HS.out.kept0 hkept).int hprev
            have hxr2 := HIN.out x (List.mem_of_getElem? hx)
            have hdr : xs.drop i = x :: xs.drop (i + 1) := by
              obtain ⟨h1, rfl⟩ := List.getElem?_eq_some_iff.1 hx
              exact List.drop_eq_getElem_cons h1
            have hT1 := HT.out
            rw [hdr, K.showFrom_cons] at hT1
            have HT1 := Lib.hid hT1
            have HX := Lib.hid hx
            have hjl : (i : Int) < (xs.length : Int) := by omega
            have hwm : IntKind.i64.wrap ((i : Int) - 1) = (i : Int) - 1 := IntWalk.i64_in _ (by omega)
            have hpl : (i : Int) - 1 < (xs.length : Int) := by omega
            have HROW := Lib.hid hrow
            have HKE2 := Lib.hid hkept
            have HFR := Lib.hid hfr
            clear hx hdr hT1 hrow hkept hfr hprev
            rcases Nat.eq_zero_or_pos i with hz | hz
            case' inl =>
              have h0 : (i : Int) - 1 < 0 := by omega
              have c2 : wr.cell? ⟨b0, off, none⟩ = some (.int .i64 now) := by rw [hz] at c1; exact c1
              clear hz
              go_wp2_with fail
            case' inr =>
              have h0 : ¬ ((i : Int) - 1 < 0) := by omega
              have h1 : (0 : Int) ≤ (i : Int) - 1 := by omega
              go_wp2_with fail
            all_goals
              have hd : IntKind.i64.wrap (x - now) = x - now := IntWalk.i64_in _ (by omega)
              have hd2 : IntKind.i64.wrap (now - x) = now - x := IntWalk.i64_in _ (by omega)
              try clear c2
              clear c1
              go_loopg [9, 5] (x - now).toNat (fun k c v wr => RPutU w (K.showBits xs) x (K.showFrom x (xs.drop (i + 1))) (x - now).toNat (fun q => now + q) k v c wr)
              case atStart => exact ⟨0, B, by omega, by omega, rfl, by simpa using HT1.out, HROW.out, HKE2.out, HFR.out⟩
              case round =>
                obtain ⟨q, B, hq, hk, rfl, hT, hrow, hkept, hfr⟩ := hrel
                have Hk3 := Lib.hid hk
                have HT2 := Lib.hid hT
                have c3 := (HS.out.kept0 hkept).int HX.out
                have hBl : (bis B).length ≤ 20000 := by
                  have := congrArg List.length HT2.out
                  rw [List.length_append] at this
                  rw [bis_length]
                  omega
                clear hk hT
                by_cases hlt2 : q < (x - now).toNat
                · have hcmp : (q : Int) < x - now := by omega
                  have hst := HT2.out
                  rw [K.step_up (now + q) x (by omega)] at hst
                  have HST2 := Lib.hid hst
                  have HKE4 := Lib.hid hkept
                  have HFR4 := Lib.hid hfr
                  have L1 : (bis B).length + 2 ≤ maxLen := by simp only [maxLen]; omega
                  have L2 : ((bis B).length + 2) * 8 ≤ 140737488355328 := by omega
                  clear hst hkept hfr
                  go_wp2_with ((at_builtin; refine wp_appL _ rfl _ _ 30 rfl 3 (.int .i64 0) 8 Try.underlying30 Try.infoInt rfl _ _ [.int .i64 1, .int .i64 0] 2 rfl rfl rfl rfl (by simp [Value.oneCell']) hrow L1 L2 ?_; intro a4 cap4 w4 hrow4 hk4 hg4))
                  go_roundg ((x - now).toNat - (q + 1))
                  case measure => have := Hk3.out; omega
                  case rel =>
                    refine ⟨q + 1, B ++ [true, false], by omega, rfl, by go_num, ?_, ?_, HKE4.out.new hk4 HFR4.out, HFR4.out.grow hg4 HKE4.out.size⟩
                    · rw [HST2.out]; simp [Int.add_assoc]
                    · have := hrow4
                      rw [show bis (B ++ [true, false]) = bis B ++ [.int .i64 1, .int .i64 0] by rw [bis_append]; rfl]
                      exact this
                · have hcmp : ¬ ((q : Int) < x - now) := by omega
                  obtain rfl : q = (x - now).toNat := by omega
                  have HROW2 := Lib.hid hrow
                  have HKE4 := Lib.hid hkept
                  have HFR4 := Lib.hid hfr
                  clear hrow hkept hfr
                  go_wp2_with fail
                  go_loopg [10, 5] (now - x).toNat (fun k c v wr => RPutU w (K.showBits xs) x (K.showFrom x (xs.drop (i + 1))) (now - x).toNat (fun q => now + ((x - now).toNat : Int) - q) k v c wr)
                  case atStart => exact ⟨0, B, by omega, by omega, rfl, by simpa using HT2.out, HROW2.out, HKE4.out, HFR4.out⟩
                  case round =>
                    obtain ⟨q, B, hq, hk, rfl, hT, hrow, hkept, hfr⟩ := hrel
                    have Hk5 := Lib.hid hk
                    have HT5 := Lib.hid hT
                    clear c3
                    have c3 := (HS.out.kept0 hkept).int HX.out
                    have hBl : (bis B).length ≤ 20000 := by
                      have := congrArg List.length HT5.out
                      rw [List.length_append] at this
                      rw [bis_length]
                      omega
                    have HKE6 := Lib.hid hkept
                    have HFR6 := Lib.hid hfr
                    clear hk hT hkept hfr hcmp
                    by_cases hlt3 : q < (now - x).toNat
                    · have hcmp : (q : Int) < now - x := by omega
                      have hst : K.showBits xs = B ++ (K.stepBits (now + ((x - now).toNat : Int) - (q : Int)) x ++ K.showFrom x (xs.drop (i + 1))) := HT5.out
                      rw [K.step_down (now + ((x - now).toNat : Int) - (q : Int)) x (by omega)] at hst
                      have HST2 := Lib.hid hst
                      have L1 : (bis B).length + 2 ≤ maxLen := by simp only [maxLen]; omega
                      have L2 : ((bis B).length + 2) * 8 ≤ 140737488355328 := by omega
                      clear hst
                      go_wp2_with ((at_builtin; refine wp_appL _ rfl _ _ 30 rfl 3 (.int .i64 0) 8 Try.underlying30 Try.infoInt rfl _ _ [.int .i64 1, .int .i64 1] 2 rfl rfl rfl rfl (by simp [Value.oneCell']) hrow L1 L2 ?_; intro a4 cap4 w4 hrow4 hk4 hg4))
                      go_roundg ((now - x).toNat - (q + 1))
                      case measure => have := Hk5.out; omega
                      case rel =>
                        refine ⟨q + 1, B ++ [true, true], by omega, rfl, by go_num, ?_, ?_, HKE6.out.new hk4 HFR6.out, HFR6.out.grow hg4 HKE6.out.size⟩
                        · rw [HST2.out, show now + ((x - now).toNat : Int) - (q : Int) - 1 = now + ((x - now).toNat : Int) - ((q + 1 : Nat) : Int) by omega]; simp
                        · have := hrow4
                          rw [show bis (B ++ [true, true]) = bis B ++ [.int .i64 1, .int .i64 1] by rw [bis_append]; rfl]
                          exact this
                    · have hcmp : ¬ ((q : Int) < now - x) := by omega
                      obtain rfl : q = (now - x).toNat := by omega
                      have hst : K.showBits xs = B ++ (K.stepBits (now + ((x - now).toNat : Int) - ((now - x).toNat : Int)) x ++ K.showFrom x (xs.drop (i + 1))) := HT5.out
                      rw [show now + ((x - now).toNat : Int) - ((now - x).toNat : Int) = x by omega, K.step_same] at hst
                      have HST2 := Lib.hid hst
                      have L1 : (bis B).length + 1 ≤ maxLen := by simp only [maxLen]; omega
                      have L2 : ((bis B).length + 1) * 8 ≤ 140737488355328 := by omega
                      clear hst
                      go_wp2_with ((at_builtin; refine wp_appL _ rfl _ _ 30 rfl 3 (.int .i64 0) 8 Try.underlying30 Try.infoInt rfl _ _ [.int .i64 0] 1 rfl rfl rfl rfl (by simp [Value.oneCell']) hrow L1 L2 ?_; intro a4 cap4 w4 hrow4 hk4 hg4))
                      go_roundg (xs.length - (i + 1))
                      case measure => have := Hk2.out; omega
                      case rel =>
                        refine ⟨i + 1, x, B ++ [false], by omega, rfl, by go_num, hxr2, HX.out, ?_, ?_, HKE6.out.new hk4 HFR6.out, HFR6.out.grow hg4 HKE6.out.size⟩
                        · rw [HST2.out]; simp
                        · have := hrow4
                          rw [show bis (B ++ [false]) = bis B ++ [.int .i64 0] by rw [bis_append]; rfl]
                          exact this
          · obtain rfl : i = xs.length := by omega
            have hT1 := HT.out
            rw [List.drop_length] at hT1
            have hT2 : K.showBits xs = B := by rw [hT1]; simp [K.showFrom]
            subst hT2
            obtain ⟨ae, ce, hv, -, -, -, -⟩ := hrow.sees
            rw [bis_length] at hv
            subst hv
            have HROW := Lib.hid hrow
            have HKE3 := Lib.hid hkept
            clear hT1 hrow hkept hfr
            go_wp2_with fail
            go_ret2
            exact ⟨fun h => by (rw [HOK.out] at h; cases h), fun _ => ⟨_, _, rfl, HROW.out⟩, HKE3.out⟩
      · have hno := K.lensOk_no xs hL
        have HNO := Lib.hid hno
        clear hno
        by_cases h1 : xs.length < 2
        · have g1 : decide ((xs.length : Int) < 2) = true := by simp; omega
          go_wp2_with fail
          go_ret2
          exact ⟨fun _ => rfl, fun h => by (rw [HNO.out] at h; cases h), HKE.out⟩
        · have g1 : decide ((xs.length : Int) < 2) = false := by simp; omega
          have g2 : decide (258 < (xs.length : Int)) = true := by simp; omega
          go_wp2_with fail
          go_ret2
          exact ⟨fun _ => rfl, fun h => by (rw [HNO.out] at h; cases h), HKE.out⟩
end Go.Proofs.Ytdaenajhgbagdaa
