/-
  The walk of delta's Show.
-/
import Derived.Test.YtickefjlkpdifaaPlainH
import Derived.Test.YtickefjlkpdifaaInts
import Derived.Test.YtickefjlkpdifaaSlice
namespace Go.Proofs.Ytickefjlkpdifaa
open Go.RowKit
set_option linter.unusedVariables false
set_option linter.unusedSimpArgs false

/-- In Show's first loop: i lengths are in range. -/
def DShowA (w0 : World) (xs : List Int) (k : Nat) (c : Value) (w : World) : Prop :=
  ∃ i, i ≤ xs.length ∧ k = xs.length - i ∧ c = .int .i64 (i : Nat) ∧ ((xs.take i).all fun x => decide (1 ≤ x ∧ x ≤ 20)) = true ∧ Kept [] w0 w
/-- In its second: i lengths are told. -/
def DShowI (w0 : World) (xs : List Int) (b : Nat) (k : Nat) (s c : Value) (w : World) : Prop :=
  ∃ i now B o, i ≤ xs.length ∧ k = xs.length - i ∧ c = .int .i64 (i : Nat) ∧ s = .int .i64 now ∧ (1 ≤ now ∧ now ≤ 20) ∧ K.showBits xs = B ++ K.showFrom now (xs.drop i) ∧ Wr w b o B ∧ Kept [] w0 w ∧ Fresh w0.heap.size (b :: foot o)
/-- In the loops within: steps are told. -/
def DShowU (w0 : World) (T : List Bool) (x : Int) (rest : List Bool) (b : Nat) (m : Int → Nat) (good : Int → Prop) (k : Nat) (s : Value) (w : World) : Prop :=
  ∃ now B o, k = m now ∧ s = .int .i64 now ∧ (1 ≤ now ∧ now ≤ 20) ∧ good now ∧ T = B ++ (K.stepBits now x ++ rest) ∧ Wr w b o B ∧ Kept [] w0 w ∧ Fresh w0.heap.size (b :: foot o)

set_option maxHeartbeats 1000000 in
theorem dshow_any (a : Option Addr) (cap : Nat) (xs : List Int) (w : World) (h : Sees w 1 a xs.length (intVals xs)) (hlen : xs.length ≤ 140737488351232) :
    Calls Try.prog 34 #[.slice a xs.length cap] w fun e w' => e = .returned (bitsV (K.showR xs)) ∧ Kept [] w w' := by
  have HS := Lib.hid h
  clear h
  by_cases hL : 2 ≤ xs.length ∧ xs.length ≤ 258
  · have g1 : decide ((xs.length : Int) < 2) = false := by simp; omega
    have g2 : decide (258 < (xs.length : Int)) = false := by simp; omega
    go_enter Try.func34, Try.ntmps34
    go_wp2_with fail
    have hc0 : (w.alloc (.cells #[.string ⟨#[]⟩, .int .i64 0] 55)).heap[w.heap.size]? = some (.cells #[.string ⟨#[]⟩, .int .i64 0] 55 (0, 0)) := heap_alloc_new _ _
    have hkW : Kept [] w (w.alloc (.cells #[.string ⟨#[]⟩, .int .i64 0] 55)) := (Kept.refl _ _).alloc _
    generalize w.alloc (.cells #[.string ⟨#[]⟩, .int .i64 0] 55) = W0 at hc0 hkW ⊢
    have HC0 := Lib.hid hc0
    have HKW := Lib.hid hkW
    clear hc0 hkW g1 g2
    go_loopg [21] xs.length (fun k c wr => DShowA W0 xs k c wr)
    case atStart => exact ⟨0, by omega, by omega, rfl, rfl, Kept.refl _ _⟩
    case round =>
      obtain ⟨i, hi, hk, rfl, hall, hkept⟩ := hrel
      have Hk := Lib.hid hk
      have HALL := Lib.hid hall
      have HKE := Lib.hid hkept
      clear hk hall
      by_cases hlt : i < xs.length
      · obtain ⟨b0, off, rfl, hcells⟩ := (HS.out.kept0 (HKW.out.new hkept (by simp [Fresh]))).at (by rw [intVals_length]; omega)
        obtain ⟨x, hx⟩ : ∃ x, xs[i]? = some x := ⟨_, List.getElem?_eq_getElem hlt⟩
        have c0 := hcells _ _ (intVals_get xs i _ hx)
        have hjl : (i : Int) < (xs.length : Int) := by omega
        have ex : xs.take (i + 1) = xs.take i ++ [x] := by rw [List.take_add_one, hx]; rfl
        have EX := Lib.hid ex
        have HX := Lib.hid hx
        clear hcells hx ex hkept
        by_cases hgood : 1 ≤ x ∧ x ≤ 20
        · have g1 : decide (x < 1) = false := by simp; omega
          have g2 : decide (20 < x) = false := by simp; omega
          go_wp2_with fail
          go_roundg (xs.length - (i + 1))
          case measure => have := Hk.out; omega
          case rel => exact ⟨i + 1, by omega, rfl, by go_num, by rw [EX.out, List.all_append, HALL.out]; simp; exact hgood, HKE.out⟩
        · have hno : K.showR xs = ([], 0, 80) := by unfold K.showR; rw [K.lensOk_bad xs i x HX.out (by omega)]; rfl
          have HNO := Lib.hid hno
          have hh := HKE.out.heap HC0.out (by simp)
          have d0 : wr.cell? ⟨w.heap.size, 0, none⟩ = _ := cell_of_row wr w.heap.size 0 _ _ _ hh
          have d1 : wr.cell? ⟨w.heap.size, 1, none⟩ = _ := cell_of_row wr w.heap.size 1 _ _ _ hh
          have f0 := frozen_of_row wr w.heap.size 0 _ _ hh
          have f1 := frozen_of_row wr w.heap.size 1 _ _ hh
          simp at d0 d1
          have HKK := Lib.hid (HKW.out.new HKE.out (by simp [Fresh]))
          clear hno hh
          by_cases h1 : x < 1
          · have g1 : decide (x < 1) = true := by simp; omega
            go_wp2_with fail
            rw [HNO.out]
            refine bodyPost_ret (v := bitsV ([], 0, 80)) (by simp [results, Try.results34, go_sem, d0, d1, bitsV]) rfl ⟨rfl, ?_⟩
            exact (HKK.out.setCell (.inr (Nat.le_refl _)) _).setCell (.inr (Nat.le_refl _)) _
          · have g1 : decide (x < 1) = false := by simp; omega
            have g2 : decide (20 < x) = true := by simp; omega
            go_wp2_with fail
            rw [HNO.out]
            refine bodyPost_ret (v := bitsV ([], 0, 80)) (by simp [results, Try.results34, go_sem, d0, d1, bitsV]) rfl ⟨rfl, ?_⟩
            exact (HKK.out.setCell (.inr (Nat.le_refl _)) _).setCell (.inr (Nat.le_refl _)) _
      · obtain rfl : i = xs.length := by omega
        have hok : K.lensOk xs = true := by
          have h1 := HALL.out
          rw [List.take_of_length_le (Nat.le_refl _)] at h1
          unfold K.lensOk
          rw [h1]; simp; exact hL
        have hin := ((K.lensOk_iff xs).1 hok).2
        obtain ⟨x0, hx0⟩ : ∃ x, xs[0]? = some x := ⟨_, List.getElem?_eq_getElem (by omega)⟩
        have hhd : xs.headD 0 = x0 := by cases xs with
          | nil => simp at hx0
          | cons y ys => simpa using hx0
        have hxr := hin x0 (List.mem_of_getElem? hx0)
        have hsb := K.showBits_len xs hok
        have hyes : K.showR xs = (K.pack (K.showBits xs), (((K.showBits xs).length : Nat) : Int), 0) := by unfold K.showR; rw [hok]; rfl
        have hst : K.showBits xs = K.low x0.toNat 5 ++ K.showFrom x0 (xs.drop 0) := by unfold K.showBits; rw [hhd]; rfl
        have HY := Lib.hid hyes
        have HST := Lib.hid hst
        have HIN := Lib.hid hin
        have HX0 := Lib.hid hx0
        clear hyes hst hok hin hhd hkept
        go_wp2_with fail
        refine (newWriter_new _).mono ?_
        rintro e w1 ⟨b, rfl, hw1, hk1, hb1⟩
        have hke1 := HKE.out.new hk1 (by simp [Fresh])
        have hb1 : Fresh W0.heap.size (b :: foot (.slice none 0 0)) := hb1.mono HKE.out.size
        obtain ⟨b0, off, rfl, hcells⟩ := (HS.out.kept0 (HKW.out.new hke1 (by simp [Fresh]))).at (by rw [intVals_length]; omega)
        have c0 := hcells _ _ (intVals_get xs 0 _ HX0.out)
        rw [Nat.add_zero] at c0
        have hjl : (0 : Int) < (xs.length : Int) := by omega
        have hw0 : IntKind.u64.wrap x0 = x0 := by rw [IntKind.wrap_u64]; omega
        clear hcells hke1
        go_wp2_with fail
        refine (put_put b x0 5 _ _ _ (by decide) (by decide) (by omega) (by simp; omega) (by simp) hw1).mono ?_
        rintro e w2 ⟨rfl, o2, hw2, hk2, hg2⟩
        have hw2 : Wr w2 b o2 (K.low x0.toNat 5) := hw2
        have hke1 := HKE.out.new hk1 (by simp [Fresh])
        have hke2 := hke1.new hk2 hb1
        have hb2 := hb1.grow hg2 hke1.size
        obtain ⟨b9, off9, he9, hcells⟩ := (HS.out.kept0 (HKW.out.new hke2 (by simp [Fresh]))).at (by rw [intVals_length]; omega)
        have c0 := hcells _ _ (intVals_get xs 0 _ HX0.out)
        rw [Nat.add_zero] at c0
        injection he9 with he9
        injection he9 with h1 h2
        subst h1 h2
        clear hcells hw1 hk1 hk2 hg2 hb1 hke1
        go_wp2_with fail
        go_loopg [7, 45] xs.length (fun k s c wr => DShowI W0 xs b k s c wr)
        case atStart => exact ⟨0, x0, _, o2, by omega, by omega, rfl, rfl, hxr, HST.out, hw2, hke2, hb2⟩
        case round =>
          obtain ⟨i, now, B, o, hi, hk, rfl, rfl, hnow, hT, hwr, hkept, hfr⟩ := hrel
          have Hk := Lib.hid hk
          have HT := Lib.hid hT
          clear hk hT hw2 hke2 hb2 c0
          by_cases hlt : i < xs.length
          · obtain ⟨b9, off9, he9, hcells⟩ := (HS.out.kept0 (HKW.out.new hkept (by simp [Fresh]))).at (by rw [intVals_length]; omega)
            obtain ⟨x, hx⟩ : ∃ x, xs[i]? = some x := ⟨_, List.getElem?_eq_getElem hlt⟩
            have c1 := hcells _ _ (intVals_get xs i _ hx)
            injection he9 with he9
            injection he9 with h1 h2
            subst h1 h2
            have hxr2 := HIN.out x (List.mem_of_getElem? hx)
            have hdr : xs.drop i = x :: xs.drop (i + 1) := by
              obtain ⟨h1, rfl⟩ := List.getElem?_eq_some_iff.1 hx
              exact List.drop_eq_getElem_cons h1
            have hT1 := HT.out
            rw [hdr, K.showFrom_cons] at hT1
            have HT1 := Lib.hid hT1
            have hjl : (i : Int) < (xs.length : Int) := by omega
            clear hcells hx hdr hT1
            have HWR := Lib.hid hwr
            have HKE2 := Lib.hid hkept
            have HFR := Lib.hid hfr
            clear hwr hkept hfr
            go_wp2_with fail
            go_loopg [7] (x - now).toNat (fun k s wr => DShowU W0 (K.showBits xs) x (K.showFrom x (xs.drop (i + 1))) b (fun y => (x - y).toNat) (fun _ => True) k s wr)
            case atStart => exact ⟨now, B, o, rfl, rfl, hnow, trivial, HT1.out, HWR.out, HKE2.out, HFR.out⟩
            case round =>
              obtain ⟨y, B, o, hk, rfl, hy, -, hT, hwr, hkept, hfr⟩ := hrel
              have Hk2 := Lib.hid hk
              have HT2 := Lib.hid hT
              clear hk hT c1
              by_cases hlt2 : y < x
              · have hst := HT2.out
                rw [K.step_up y x hlt2] at hst
                have hBl : B.length ≤ 1000000000000 := by
                  have := congrArg List.length HT2.out
                  rw [List.length_append] at this
                  omega
                have HST2 := Lib.hid hst
                have HBL := Lib.hid hBl
                have hy1 : IntKind.i64.wrap (y + 1) = y + 1 := IntWalk.i64_in _ (by omega)
                clear hst hBl
                go_wp2_with fail
                refine (put_put b 2 2 _ _ _ (by decide) (by decide) (by decide) (by decide) HBL.out hwr).mono ?_
                rintro e w4 ⟨rfl, o4, hw4, hk4, hg4⟩
                have hw4 : Wr w4 b o4 (B ++ [true, false]) := hw4
                have hkept4 := hkept.new hk4 hfr
                have hfr4 := hfr.grow hg4 hkept.size
                clear hwr hkept hfr hk4 hg4
                go_wp2_with fail
                go_roundg (x - (y + 1)).toNat
                case measure => have := Hk2.out; omega
                case rel => exact ⟨y + 1, _, o4, rfl, by go_num, by omega, trivial, by rw [HST2.out]; simp, hw4, hkept4, hfr4⟩
              · have HWR3 := Lib.hid hwr
                have HKE3 := Lib.hid hkept
                have HFR3 := Lib.hid hfr
                clear hwr hkept hfr
                go_wp2_with fail
                go_loopg [7] (y - x).toNat (fun k s wr => DShowU W0 (K.showBits xs) x (K.showFrom x (xs.drop (i + 1))) b (fun y => (y - x).toNat) (fun y => x ≤ y) k s wr)
                case atStart => exact ⟨y, B, o, rfl, rfl, hy, by omega, HT2.out, HWR3.out, HKE3.out, HFR3.out⟩
                case round =>
                  obtain ⟨z, B, o, hk, rfl, hz, hxz, hT, hwr, hkept, hfr⟩ := hrel
                  have Hk3 := Lib.hid hk
                  have HT3 := Lib.hid hT
                  have hBl : B.length ≤ 1000000000000 := by
                    have := congrArg List.length HT3.out
                    rw [List.length_append] at this
                    omega
                  have HBL := Lib.hid hBl
                  clear hk hT hBl
                  by_cases hlt3 : x < z
                  · have hst := HT3.out
                    rw [K.step_down z x hlt3] at hst
                    have HST2 := Lib.hid hst
                    have hy1 : IntKind.i64.wrap (z - 1) = z - 1 := IntWalk.i64_in _ (by omega)
                    clear hst
                    go_wp2_with fail
                    refine (put_put b 3 2 _ _ _ (by decide) (by decide) (by decide) (by decide) HBL.out hwr).mono ?_
                    rintro e w4 ⟨rfl, o4, hw4, hk4, hg4⟩
                    have hw4 : Wr w4 b o4 (B ++ [true, true]) := hw4
                    have hkept4 := hkept.new hk4 hfr
                    have hfr4 := hfr.grow hg4 hkept.size
                    clear hwr hkept hfr hk4 hg4
                    go_wp2_with fail
                    go_roundg (z - 1 - x).toNat
                    case measure => have := Hk3.out; omega
                    case rel => exact ⟨z - 1, _, o4, rfl, by go_num, by omega, by omega, by rw [HST2.out]; simp, hw4, hkept4, hfr4⟩
                  · obtain rfl : z = x := by omega
                    have hst := HT3.out
                    rw [K.step_same] at hst
                    have HST2 := Lib.hid hst
                    clear hst
                    go_wp2_with fail
                    refine (put_put b 0 1 _ _ _ (by decide) (by decide) (by decide) (by decide) HBL.out hwr).mono ?_
                    rintro e w4 ⟨rfl, o4, hw4, hk4, hg4⟩
                    have hw4 : Wr w4 b o4 (B ++ [false]) := hw4
                    have hkept4 := hkept.new hk4 hfr
                    have hfr4 := hfr.grow hg4 hkept.size
                    clear hwr hkept hfr hk4 hg4
                    go_wp2_with fail
                    go_roundg (xs.length - (i + 1))
                    case measure => have := Hk.out; omega
                    case rel => exact ⟨i + 1, z, _, o4, by omega, rfl, by go_num, rfl, hz, by rw [HST2.out]; simp, hw4, hkept4, hfr4⟩
          · obtain rfl : i = xs.length := by omega
            have hT1 := HT.out
            rw [List.drop_length] at hT1
            have hT2 : K.showBits xs = B := by rw [hT1]; simp [K.showFrom]
            subst hT2
            have hh := hkept.heap HC0.out (by simp)
            have d0 : wr.cell? ⟨w.heap.size, 0, none⟩ = _ := cell_of_row wr w.heap.size 0 _ _ _ hh
            have d1 : wr.cell? ⟨w.heap.size, 1, none⟩ = _ := cell_of_row wr w.heap.size 1 _ _ _ hh
            have f0 := frozen_of_row wr w.heap.size 0 _ _ hh
            have f1 := frozen_of_row wr w.heap.size 1 _ _ hh
            simp at d0 d1
            have HKK := Lib.hid (HKW.out.new hkept (by simp [Fresh]))
            clear hh hT1 hkept
            go_wp2_with fail
            refine (text_ok _ _ _ _ hwr).mono ?_
            rintro e w' ⟨rfl, rfl⟩
            go_wp2_with fail
            refine (len_ok _ _ _ _ hwr).mono ?_
            rintro e w' ⟨rfl, rfl⟩
            go_wp2_with fail
            rw [HY.out]
            refine bodyPost_ret (v := bitsV (K.pack (K.showBits xs), (((K.showBits xs).length : Nat) : Int), 0)) (by simp [results, Try.results34, go_sem, d0, d1, bitsV]) rfl ⟨rfl, ?_⟩
            exact (HKK.out.setCell (.inr (Nat.le_refl _)) _).setCell (.inr (Nat.le_refl _)) _
  · have hno : K.showR xs = ([], 0, 80) := by unfold K.showR; rw [K.lensOk_no xs hL]; rfl
    have HNO := Lib.hid hno
    clear hno
    by_cases h1 : xs.length < 2
    · have g1 : decide ((xs.length : Int) < 2) = true := by simp; omega
      go_enter Try.func34, Try.ntmps34
      go_wp2_with fail
      rw [HNO.out]
      refine bodyPost_ret (v := bitsV ([], 0, 80)) (by simp [results, Try.results34, go_sem, bitsV]) rfl ⟨rfl, ?_⟩
      first | exact (Kept.refl [] w).alloc _ | exact ((Kept.refl [] w).alloc _).setCell (by simp) _ | exact (((Kept.refl [] w).alloc _).setCell (by simp) _).setCell (by simp) _
    · have g1 : decide ((xs.length : Int) < 2) = false := by simp; omega
      have g2 : decide (258 < (xs.length : Int)) = true := by simp; omega
      go_enter Try.func34, Try.ntmps34
      go_wp2_with fail
      rw [HNO.out]
      refine bodyPost_ret (v := bitsV ([], 0, 80)) (by simp [results, Try.results34, go_sem, bitsV]) rfl ⟨rfl, ?_⟩
      first | exact (Kept.refl [] w).alloc _ | exact ((Kept.refl [] w).alloc _).setCell (by simp) _ | exact (((Kept.refl [] w).alloc _).setCell (by simp) _).setCell (by simp) _
end Go.Proofs.Ytickefjlkpdifaa
