/-
  The walks of prefix's codes and Codes.
-/
import Derived.Test.YtodjfgdolegfpaaPreB
namespace Go.Proofs.Ytodjfgdolegfpaa
open Go.RowKit
set_option linter.unusedVariables false
set_option linter.unusedSimpArgs false

theorem made_err (a : Option Addr) (cap : Nat) (xs : List Int) (w : World) (h : Sees w 1 a xs.length (intVals xs)) (hlen : xs.length ≤ 140737488351232) (hok : K.goodL xs = false) :
    Calls Try.prog 23 #[.slice a xs.length cap] w fun e w' => e = .returned (.tuple #[.pointer none, .int .i64 80]) ∧ w = w' := by
  have hR : checkR xs = 80 := by unfold checkR; rw [hok]; rfl
  have HS := Lib.hid h
  clear h hok
  go_enter Try.func23, Try.ntmps23
  go_wp2_with fail
  refine (check_any a cap xs _ HS.out hlen).mono ?_
  rintro e w' ⟨rfl, rfl⟩
  rw [hR]
  clear hR
  go_wp2_with fail
  go_ret2
  exact ⟨rfl, rfl⟩

/-- Codes of the symbols that stand in O. -/
def filled (ls : List Nat) (O : List Nat) : List Nat := (List.range ls.length).map fun i => if i ∈ O then K.codeP ls i else 0
theorem filled_length (ls O : List Nat) : (filled ls O).length = ls.length := by simp [filled]
theorem filled_nil (ls : List Nat) : List.replicate ls.length (Value.int .i64 0) = natVals (filled ls []) := by
  apply List.ext_getElem?
  intro i
  by_cases hi : i < ls.length
  · rw [List.getElem?_replicate, if_pos hi]; simp [natVals, filled, List.getElem?_range hi]
  · rw [List.getElem?_eq_none (by simp; omega), List.getElem?_eq_none (by rw [natVals_length, filled_length]; omega)]
theorem filled_snoc (ls O : List Nat) (i : Nat) (hi : i < ls.length) : (filled ls O).set i (K.codeP ls i) = filled ls (O ++ [i]) := by
  apply List.ext_getElem?
  intro j
  rw [List.getElem?_set]
  by_cases hj : j < ls.length
  · have e1 : ∀ O : List Nat, (filled ls O)[j]? = some (if j ∈ O then K.codeP ls j else 0) := fun O => by simp [filled, List.getElem?_range hj]
    rw [e1, e1, filled_length]
    by_cases hij : i = j
    · subst hij; rw [if_pos rfl, if_pos hi, if_pos (by simp)]
    · rw [if_neg hij]
      congr 1
      have : j ∈ O ++ [i] ↔ j ∈ O := by simp; omega
      simp only [this]
  · rw [List.getElem?_eq_none (by rw [filled_length]; omega), List.getElem?_eq_none (by rw [filled_length]; omega), if_neg (by omega)]
theorem filled_all (ls : List Nat) (N : Nat) (h : ∀ x ∈ ls, x < N) : filled ls (K.orderTo ls N) = K.codesP ls := by
  unfold filled K.codesP
  refine List.map_congr_left fun i hi => ?_
  have hi := List.mem_range.1 hi
  obtain ⟨k, hk⟩ := K.orderTo_all ls N h i hi
  rw [if_pos (List.mem_of_getElem? hk)]

/-- In codes' loop: k codes are laid. -/
def CodesI (w0 : World) (g h : Nat) (ls O : List Nat) (k : Nat) (c : Value) (w : World) : Prop :=
  ∃ k', k' ≤ O.length ∧ k = O.length - k' ∧ c = .int .i64 (k' : Nat) ∧ Row w 3 (.slice (some ⟨h, 0, none⟩) ls.length ls.length) (natVals (filled ls (O.take k'))) ∧ Kept [h] w0 w

set_option maxHeartbeats 1000000 in
theorem codes_ok (g : Nat) (a : Option Addr) (cap : Nat) (xs : List Int) (dv : Value) (w : World) (h : Sees w 1 a xs.length (intVals xs)) (hok : K.goodL xs = true) (hT : Tab w g a xs.length cap (K.natsOf xs) ((maxL xs).toNat + 1) dv) :
    Calls Try.prog 24 #[.pointer (some ⟨g, 0, none⟩)] w fun e w' => ∃ h, e = .returned (.slice (some ⟨h, 0, none⟩) xs.length xs.length) ∧
      Row w' 3 (.slice (some ⟨h, 0, none⟩) xs.length xs.length) (natVals (K.codesP (K.natsOf xs))) ∧ Kept [] w w' ∧ w.heap.size ≤ h := by
  have hin := ((K.lensOk_iff xs).1 (K.goodL_lens hok)).2
  have hl := ((K.lensOk_iff xs).1 (K.goodL_lens hok)).1
  have hM0 := (maxL_ge xs)
  have hM := maxL_le xs 20 (by decide) (fun x hx => (hin x hx).2)
  obtain ⟨M, hMM⟩ := Int.eq_ofNat_of_zero_le hM0.1
  obtain ⟨b0, off, rfl, -⟩ := h.at (by rw [intVals_length]; omega)
  rw [hMM, Int.toNat_natCast] at hT
  have hM20 : M ≤ 20 := by omega
  have hfit := fun n hn => K.fits (K.natsOf xs) (fun x hx => (K.goodL_in hok x hx).2) (K.goodL_room hok) n hn
  have hall : ∀ x ∈ K.natsOf xs, x < M + 1 := by
    intro x hx
    simp only [K.natsOf, List.mem_map] at hx
    obtain ⟨y, hy, rfl⟩ := hx
    have := hM0.2 y hy
    omega
  obtain ⟨ls, hls⟩ : ∃ ls, K.natsOf xs = ls := ⟨_, rfl⟩
  have hll : ls.length = xs.length := by rw [← hls, K.natsOf_length]
  have hget : ∀ i x, xs[i]? = some x → x = ((ls.getD i 0 : Nat) : Int) := by
    intro i x hx
    have := hin x (List.mem_of_getElem? hx)
    rw [← hls]; unfold K.natsOf
    rw [List.getD, List.getElem?_map, hx]
    simp; omega
  rw [hls] at hfit hall hT ⊢
  have hpos : ∀ x ∈ ls, 1 ≤ x := fun x hx => by rw [← hls] at hx; exact (K.goodL_in hok x hx).1
  have HPOS := Lib.hid hpos
  clear hpos
  obtain ⟨O, hO⟩ : ∃ O, K.orderTo ls (M + 1) = O := ⟨_, rfl⟩
  have hOl := orderTo_len ls (M + 1)
  have hinv := K.orderTo_inv ls (M + 1)
  have hfa := filled_all ls (M + 1) hall
  rw [hO] at hOl hinv hfa
  obtain ⟨hA, hrow, hng⟩ := hT
  rw [hO] at hrow
  obtain ⟨av, cv, hv, -, -, -, -⟩ := hrow.sees
  rw [natVals_length] at hv
  subst hv
  have c0 := Tab.of hA
  have c1 := Tab.order hA
  have hO6 : O.length ≤ 6000 := by
    have := Nat.mul_le_mul (show M + 1 ≤ 21 by omega) (show ls.length ≤ 258 by omega)
    omega
  have HS := Lib.hid h
  have HFIT := Lib.hid hfit
  have HLL := Lib.hid hll
  have HGET := Lib.hid hget
  have HINV := Lib.hid hinv
  have HFA := Lib.hid hfa
  have HA := Lib.hid hA
  have HSO := Lib.hid hrow.seeA
  have HIN := Lib.hid hall
  have hone : 0 < xs.length := by omega
  have hl2 : xs.length ≤ 258 := hl.2
  clear h hin hM0 hM hMM hfit hall hls hll hget hO hOl hinv hfa hA hrow hng hl hok
  go_enter Try.func24, Try.ntmps24
  go_wp2_with ((at_make; refine wp_make1 rfl _ _ 22 rfl 3 (.int .i64 0) 8 Try.underlying22 Try.infoInt rfl .i64 .i64 _ _ xs.length xs.length rfl rfl rfl rfl (Nat.le_refl _) (by omega) (by simp only [maxLen]; omega) ?_; intro w1 hrow1 hk1; have c0 := hk1.cellOf c0 (by simp); have c1 := hk1.cellOf c1 (by simp)))
  have hr1 : Row w1 3 (.slice (some ⟨w.heap.size, 0, none⟩) ls.length ls.length) (natVals (filled ls (O.take 0))) := by
    rw [List.take_zero, ← filled_nil, HLL.out]; exact hrow1
  have HR1 := Lib.hid hr1
  have HK1 := Lib.hid hk1
  have HA1 := Lib.hid (HA.out.kept hk1 (by simp))
  have HSO1 := Lib.hid (HSO.out.kept0 hk1)
  have HS1 := Lib.hid (HS.out.kept0 hk1)
  have hgh : g < w.heap.size := HA.out.lt
  generalize hh : w.heap.size = h at hgh hr1 HR1 ⊢
  have HH := Lib.hid hh
  clear hh hrow1 hk1 hr1 c0 c1
  have c0 := Tab.of HA1.out
  have c1 := Tab.order HA1.out
  go_wp2_with fail
  go_loopg [19] O.length (fun k c wr => CodesI w1 g h ls O k c wr)
  case atStart => exact ⟨0, by omega, by omega, rfl, HR1.out, Kept.refl _ _⟩
  case round =>
    obtain ⟨k, hkl, hk, rfl, hrow, hkept⟩ := hrel
    have Hk := Lib.hid hk
    have HROW := Lib.hid hrow
    have HKE := Lib.hid hkept
    clear hk hrow hkept c0 c1
    by_cases hlt : k < O.length
    · have hli : (k : Int) < (O.length : Int) := by omega
      obtain ⟨i, hi⟩ : ∃ i, O[k]? = some i := ⟨_, List.getElem?_eq_getElem hlt⟩
      obtain ⟨h1, h2, h3⟩ := HINV.out k i hi
      have hgh2 : ∀ x, x ≠ h → x ∉ [h] := fun x hx hm => hx (List.mem_singleton.1 hm)
      obtain ⟨bo, oo, rfl, -⟩ := HSO1.out.at (by rw [natVals_length]; omega)
      have hsb : bo < h := by rw [← HH.out]; exact HSO.out.lt (by rw [natVals_length]; omega) bo (by simp [footA])
      have hb0 : b0 < h := by rw [← HH.out]; exact HS.out.lt (by rw [intVals_length]; omega) b0 (by simp [footA])
      have hso := (HSO1.out.kept HKE.out (fun x hx => hgh2 x (by simp [footA] at hx; omega)))
      have hs1 := (HS1.out.kept HKE.out (fun x hx => hgh2 x (by simp [footA] at hx; omega)))
      have hA2 := HA1.out.kept HKE.out (hgh2 g (by omega))
      obtain ⟨x, hx⟩ : ∃ x, xs[i]? = some x := ⟨_, List.getElem?_eq_getElem (by rw [← HLL.out]; exact h1)⟩
      have hxe := HGET.out i x hx
      obtain ⟨n, hn⟩ : ∃ n, ls.getD i 0 = n := ⟨_, rfl⟩
      rw [hn] at hxe h2 h3
      subst hxe
      have c0 := Tab.of hA2
      have c2 := hs1.int hx
      have c3 : wr.cell? ⟨bo, oo + k, none⟩ = some (.int .i64 (i : Int)) := by
        obtain ⟨b', o', he, hc⟩ := hso.2 k _ (nat_get O k i hi)
        injection he with he
        injection he with e1 e2
        subst e1 e2
        exact hc
      have hn1 : 1 ≤ n := by
        have hm : ls.getD i 0 ∈ ls := by rw [List.getD, List.getElem?_eq_getElem h1]; exact List.getElem_mem h1
        have := HPOS.out _ hm
        omega
      have cf := Tab.first hA2 n (K.firstP ls n) (by unfold tabF; rw [tabUpto_get _ _ _ (by omega), if_pos (by omega)])
      have cb := Tab.begin hA2 (tabUpto_length _ _) n (K.orderTo ls n).length (by unfold tabB; rw [tabUpto_get _ _ _ (by omega), if_pos (by omega)])
      have hil : i < xs.length := by rw [← HLL.out]; exact h1
      have hili : (i : Int) < (xs.length : Int) := by omega
      obtain ⟨old, hold⟩ : ∃ old, (filled ls (O.take k))[i]? = some old := ⟨_, List.getElem?_eq_getElem (by rw [filled_length]; exact h1)⟩
      have co := HROW.out.cellAt (nat_get _ i _ hold)
      have fo := HROW.out.free i
      have hn22 : (n : Int) < 22 := by omega
      have hfit := HFIT.out n (by omega)
      have hp20 : 2 ^ n ≤ 2 ^ 20 := Nat.pow_le_pow_right (by decide) (by omega)
      have hf20 : K.firstP ls n ≤ 1048576 := by
        have e : (2 : Nat) ^ 20 = 1048576 := rfl
        omega
      have hsum : IntKind.i64.wrap ((K.firstP ls n : Int) + (k : Int)) = (K.firstP ls n : Int) + (k : Int) := IntWalk.i64_in _ (by omega)
      have hcode : K.codeP ls i = K.firstP ls n + k - (K.orderTo ls n).length := by
        unfold K.codeP
        rw [hn]
        omega
      have hcw : IntKind.i64.wrap ((K.firstP ls n : Int) + (k : Int) - ((K.orderTo ls n).length : Int)) = ((K.codeP ls i : Nat) : Int) := by
        rw [IntWalk.i64_in _ (by omega), hcode]; omega
      have htk : O.take (k + 1) = O.take k ++ [i] := by rw [List.take_add_one, hi]; rfl
      have hput := HROW.out.put i (.int .i64 ((K.codeP ls i : Nat) : Int))
      rw [nat_set, filled_snoc ls _ i h1, ← htk] at hput
      have HPUT := Lib.hid hput
      have hgo : ¬ g = h := by omega
      have hbo : ¬ bo = h := by omega
      have hbo2 : ¬ b0 = h := by omega
      clear hold hx hn hgh2 hso hs1 hA2 hi hfit hp20 hcode htk hput h1 h3
      generalize K.codeP ls i = cd at hcw HPUT
      go_wp2_with fail
      go_region
      go_wp2_with fail
      go_roundg (O.length - (k + 1))
      case measure => have := Hk.out; omega
      case rel => exact ⟨k + 1, by omega, rfl, by go_num, HPUT.out, (HKE.out.setCell (by simp) _).drew⟩
    · obtain rfl : k = O.length := by omega
      have hr := HROW.out
      rw [List.take_length, HFA.out, HLL.out] at hr
      have HR := Lib.hid hr
      clear hr
      go_wp2_with fail
      go_ret
      exact ⟨h, rfl, HR.out, HK1.out.trans HKE.out (fun x hx => .inr (by rw [List.mem_singleton.1 hx, HH.out]; exact Nat.le_refl _)), by rw [HH.out]; exact Nat.le_refl _⟩
end Go.Proofs.Ytodjfgdolegfpaa
