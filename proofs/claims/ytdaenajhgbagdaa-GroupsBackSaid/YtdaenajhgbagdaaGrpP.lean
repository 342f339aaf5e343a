/-
  Plans that Choose, Flat and Best answer, plainly: they may be, they fit their list, their tables leave no room; the best one is not the greater one.
-/
import Derived.Test.YtdaenajhgbagdaaGrpO
import Derived.Test.YtdaenajhgbagdaaLenM
namespace Go.Proofs.Ytdaenajhgbagdaa
open Go.RowKit
set_option linter.unusedVariables false
set_option linter.unusedSimpArgs false

theorem flat_fullG {xs : List Int} (h : mayL xs = true) : fullL (castI (K.flatL (ownN xs))) = true := by
  obtain ⟨h2, h3, -⟩ := mayL_get h
  have hl : (K.flatL (ownN xs)).length = xs.length := by rw [K.flatL_length, ownN_length]
  have k4 := K.flat_full (ownN xs) (by rw [ownN_length]; omega) (by rw [ownN_length]; omega)
  have k5 := K.made_pos (by omega) k4
  have k8 : Nat.log2 (ownN xs).length ≤ 8 := pow_big (K.log2_has (by rw [ownN_length]; omega)).1 (by rw [ownN_length]; omega)
  unfold fullL sumR castI
  have e1 := natsOf_cast (K.flatL (ownN xs))
  have e2 : K.lensOk ((K.flatL (ownN xs)).map fun n : Nat => (n : Int)) = true := by
    unfold K.lensOk
    rw [Bool.and_eq_true, List.all_eq_true, List.length_map]
    refine ⟨by simp; omega, fun y hy => ?_⟩
    obtain ⟨x, hx, rfl⟩ := List.mem_map.1 hy
    have a := k5 x hx
    have b := (K.flatL_mem hx).2
    rw [decide_eq_true_eq]
    omega
  rw [e2, if_pos rfl, e1, decide_eq_true_eq]
  have e3 : K.room (K.flatL (ownN xs)) = ((K.flatL (ownN xs)).map fun x => 2 ^ (20 - x)).sum := rfl
  rw [e3, k4]
/-- A plan that fits a list of symbols. -/
structure FitP (T : List (List Int)) (P : List Int) (xs : List Int) (n : Int) : Prop where
  may : K.mayPlan T P = true
  many : K.groupsN xs.length ≤ P.length
  len : ∀ t ∈ T, (t.length : Int) = n
  full : ∀ t ∈ T, fullL t = true
  two : 2 ≤ T.length
theorem fit_mk {T : List (List Nat)} {P : List Nat} {xs : List Int} {n m : Nat} (hT : T.length = m) (hm : 2 ≤ m ∧ m ≤ 6) (hP : P.length = K.groupsN xs.length) (hx : 1 ≤ xs.length ∧ xs.length ≤ 1638350) (hp : ∀ x ∈ P, x < m) (hn : 3 ≤ n) (ht : ∀ t ∈ T, t.length = n ∧ fullL (castI t) = true) :
    FitP (T.map castI) (castI P) xs (n : Int) := by
  have hg : 1 ≤ K.groupsN xs.length ∧ K.groupsN xs.length ≤ 32767 := by unfold K.groupsN; omega
  have hlen : ∀ t ∈ T.map castI, t.length = n := by
    intro t h
    obtain ⟨u, hu, rfl⟩ := List.mem_map.1 h
    rw [castI_length]; exact (ht u hu).1
  have hful : ∀ t ∈ T.map castI, fullL t = true := by
    intro t h
    obtain ⟨u, hu, rfl⟩ := List.mem_map.1 h
    exact (ht u hu).2
  refine ⟨mayPlan_yes (by rw [List.length_map]; omega) (by rw [castI_length]; omega) (fun t h => ?_) (fun x h => ?_), by rw [castI_length]; omega, fun t h => by have := hlen t h; omega, hful, by rw [List.length_map]; omega⟩
  · have h0 : ((T.map castI).getD 0 []).length = n := by
      obtain ⟨t0, h0⟩ : ∃ t, (T.map castI)[0]? = some t := ⟨_, List.getElem?_eq_getElem (by rw [List.length_map]; omega)⟩
      rw [List.getD, h0]
      exact hlen t0 (List.mem_of_getElem? h0)
    rw [h0, tableOk_iff]
    obtain ⟨u, hu, rfl⟩ := List.mem_map.1 h
    exact ⟨hlen _ h, by rw [castI_length, (ht u hu).1]; exact hn, (full_good (ht u hu).2).1⟩
  · obtain ⟨y, hy, rfl⟩ := List.mem_map.1 h
    have := hp y hy
    rw [List.length_map]
    omega
theorem choose_fit (xs : List Int) (n : Int) (h : K.mayListL xs n = true) : FitP (chooseR xs n).1 (chooseR xs n).2.1 xs n ∧ (chooseR xs n).2.2 = 0 := by
  obtain ⟨-, h3, h258, h4, h5, hall⟩ := cnt_may h
  obtain ⟨-, t2, t3⟩ := tablesR_ok xs.length h4
  obtain ⟨m, hm⟩ : ∃ m, (K.tablesR (xs.length : Int)).1 = m := ⟨_, rfl⟩
  rw [hm] at t2 t3
  have hl : (K.natsOf xs).length = xs.length := K.natsOf_length xs
  unfold chooseR
  rw [h, if_pos rfl, hm]
  refine ⟨?_, rfl⟩
  obtain ⟨n, rfl⟩ := Int.eq_ofNat_of_zero_le (show 0 ≤ n by omega)
  rw [Int.toNat_natCast]
  have hg := K.tabsC_good (K.natsOf xs) n m ⟨by omega, by omega⟩ (by rw [hl]; exact h5) 4
  refine fit_mk hg.1 ⟨t2, t3⟩ (by rw [K.picksC_len, hl]) ⟨h4, h5⟩ (K.picksL_lt _ _ _ (by omega)) (by omega) fun t ht => ⟨(hg.2 t ht).1, ?_⟩
  obtain ⟨k, -, rfl⟩ := List.mem_map.1 (show t ∈ (List.range m).map _ from ht)
  exact (K.makeF_ok _ (by rw [K.cntAt_length]; omega) (by rw [K.cntAt_length]; omega) (fun c hc => by have := K.cntAt_le _ _ _ _ _ c hc; rw [hl] at this; omega)).2.2
theorem flat_fit (xs : List Int) (n : Int) (h : K.mayListL xs n = true) : FitP (flatGR xs n).1 (flatGR xs n).2.1 xs n ∧ (flatGR xs n).2.2 = 0 := by
  obtain ⟨hmay, h3, h258, h4, h5, hall⟩ := cnt_may h
  unfold flatGR
  rw [h, if_pos rfl]
  refine ⟨?_, rfl⟩
  obtain ⟨n, rfl⟩ := Int.eq_ofNat_of_zero_le (show 0 ≤ n by omega)
  rw [Int.toNat_natCast] at hmay ⊢
  have e1 : flatPT xs n = castI (K.flatL (ownN (cntI xs n))) := rfl
  have e2 : flatPP xs = castI (List.replicate (K.groupsN xs.length) 0) := by unfold flatPP castI; simp
  have hfl : (K.flatL (ownN (cntI xs n))).length = n := by rw [K.flatL_length, ownN_length]; simp [cntI, cntTo_len]
  have := fit_mk (T := [K.flatL (ownN (cntI xs n)), K.flatL (ownN (cntI xs n))]) (P := List.replicate (K.groupsN xs.length) 0) (xs := xs) (n := n) (m := 2) rfl ⟨by omega, by omega⟩ (by simp) ⟨h4, h5⟩ (fun x hx => by rw [List.eq_of_mem_replicate hx]; omega) (by omega) (fun t ht => by
    simp at ht
    subst ht
    exact ⟨hfl, flat_fullG hmay⟩)
  rw [e1, e2]
  exact this
theorem FitP.head {T : List (List Int)} {P xs : List Int} {n : Int} (h : FitP T P xs n) : ((T.getD 0 []).length : Int) = n := by
  obtain ⟨t0, h0⟩ : ∃ t, T[0]? = some t := ⟨_, List.getElem?_eq_getElem (by have := h.two; omega)⟩
  rw [List.getD, h0]
  exact h.len t0 (List.mem_of_getElem? h0)
theorem FitP.codes {T : List (List Int)} {P xs : List Int} {n : Int} (h : FitP T P xs n) (hx : ∀ s ∈ xs, 0 ≤ s ∧ s < n) : ∃ B, K.codG T P n 0 xs = some B ∧ K.codR T P xs = (B, 0) := by
  obtain ⟨B, hB⟩ := K.codG_some T P n xs 0 hx
  refine ⟨B, hB, ?_⟩
  unfold K.codR
  rw [h.may, decide_eq_true h.many, h.head, hB]
  rfl
/-- What Best answers of a list that may be. -/
theorem best_fit (xs : List Int) (n : Int) (h : K.mayListL xs n = true) : FitP (bestGR xs n).1 (bestGR xs n).2.1 xs n ∧ (bestGR xs n).2.2 = 0 ∧ (K.sizeGR (bestGR xs n).1 (bestGR xs n).2.1 xs).1 ≤ (K.sizeGR (flatGR xs n).1 (flatGR xs n).2.1 xs).1 := by
  obtain ⟨c1, c2⟩ := choose_fit xs n h
  obtain ⟨f1, f2⟩ := flat_fit xs n h
  unfold bestGR
  rw [if_pos c2]
  by_cases hlt : (K.sizeGR (flatGR xs n).1 (flatGR xs n).2.1 xs).1 < (K.sizeGR (chooseR xs n).1 (chooseR xs n).2.1 xs).1
  · rw [if_pos hlt]
    exact ⟨f1, rfl, Nat.le_refl _⟩
  · rw [if_neg hlt]
    exact ⟨c1, rfl, Nat.le_of_not_lt hlt⟩
theorem best_bad (xs : List Int) (n : Int) (h : K.mayListL xs n = false) : bestGR xs n = ([], [], 2) ∧ flatGR xs n = ([], [], 2) := by
  have e : chooseR xs n = ([], [], 2) := by unfold chooseR; rw [h]; rfl
  refine ⟨by unfold bestGR; rw [e]; rfl, by unfold flatGR; rw [h]; rfl⟩
end Go.Proofs.Ytdaenajhgbagdaa
