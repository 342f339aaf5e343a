/-
  Trees of least weight: what stands behind each joining, and at the end.
-/
import Derived.Test.YtcjkjknahalpnaaHufA
namespace Go.Proofs.Ytcjkjknahalpnaa
namespace K
set_option linter.unusedVariables false
set_option linter.unusedSimpArgs false

theorem Forest.perm {n : Nat} {w W over : List Nat} {F F' : List Tr} (h : Forest n w W over F) (hp : F.Perm F') : Forest n w W over F' :=
  ⟨h.len, h.big, fun t ht => h.ok t (hp.mem_iff.2 ht), fun r h1 h2 => by obtain ⟨t, ht, e⟩ := h.roots r h1 h2; exact ⟨t, hp.mem_iff.1 ht, e⟩, (hp.map _).nodup_iff.1 h.distinct,
    ((hp.flatMap_right _).map _).symm.trans h.leaves⟩
theorem Forest.step {n : Nat} {w W over : List Nat} {s t : Tr} {R : List Tr} (h : Forest n w W over (s :: t :: R)) (m : Nat) (hm : W.length = m) (hm0 : m ≠ 0) :
    Forest n w (W ++ [W.getD s.1 0 + W.getD t.1 0]) ((over.set s.1 m).set t.1 m ++ [0]) (join m s t :: R) := by
  have hs := h.ok s (by simp)
  have ht := h.ok t (by simp)
  have hd := h.distinct
  simp only [List.map_cons, List.nodup_cons, List.mem_cons, List.mem_map, not_or, not_exists, not_and] at hd
  have hst : s.1 ≠ t.1 := hd.1.1
  have ho : over.length = m := by rw [h.len, hm]
  have hov : ∀ j, ((over.set s.1 m).set t.1 m ++ [0]).getD j 0 = if j = t.1 then m else if j = s.1 then m else over.getD j 0 := by
    intro j
    have hs1 := hs.root
    have ht1 := ht.root
    rw [getD_zero, getD_set, getD_set, List.length_set]
    by_cases h1 : j = t.1
    · rw [if_pos ⟨h1, by omega⟩, if_pos h1]
    · rw [if_neg (fun h => h1 h.1), if_neg h1]
      by_cases h2 : j = s.1
      · rw [if_pos ⟨h2, by omega⟩, if_pos h2]
      · rw [if_neg (fun h => h2 h.1), if_neg h2]
  refine ⟨?_, ?_, fun u hu => ?_, fun r hr hr0 => ?_, ?_, ?_⟩
  · rw [List.length_append, List.length_append, List.length_set, List.length_set, h.len]; rfl
  · rw [List.length_append]; have := h.big; simp; omega
  · rcases List.mem_cons.1 hu with rfl | hu
    · exact join_ok hs ht hm ho hm0 hst
    · have hu0 := h.ok u (by simp [hu])
      refine hu0.turn (fun j hj => getD_snoc _ _ _ hj) (by rw [List.length_append]; omega) (fun j hj => ?_) ?_
      · rw [hov, if_neg (by rintro rfl; exact hj ht.root.2), if_neg (by rintro rfl; exact hj hs.root.2)]
      · rw [hov, if_neg (hd.2.1 u hu), if_neg (hd.1.2 u hu)]; exact hu0.root.2
  · rw [List.length_append, hm] at hr
    simp only [List.length_cons, List.length_nil] at hr
    by_cases hrm : r = m
    · exact ⟨join m s t, by simp, by rw [hrm]; rfl⟩
    · rw [hov] at hr0
      by_cases h1 : r = t.1
      · rw [if_pos h1] at hr0; omega
      · rw [if_neg h1] at hr0
        by_cases h2 : r = s.1
        · rw [if_pos h2] at hr0; omega
        · rw [if_neg h2] at hr0
          obtain ⟨u, hu, e⟩ := h.roots r (by omega) hr0
          rcases List.mem_cons.1 hu with rfl | hu
          · exact absurd e.symm h2
          · rcases List.mem_cons.1 hu with rfl | hu
            · exact absurd e.symm h1
            · exact ⟨u, by simp [hu], e⟩
  · rw [List.map_cons, List.nodup_cons]
    refine ⟨fun hm2 => ?_, hd.2.2⟩
    obtain ⟨u, hu, e⟩ := List.mem_map.1 hm2
    have := (h.ok u (by simp [hu])).root.1
    have e2 : u.1 = m := e
    omega
  · have hl := h.leaves
    simp only [List.flatMap_cons, List.map_append] at hl ⊢
    have hj : ((join m s t).2.map Prod.fst) = s.2.map Prod.fst ++ t.2.map Prod.fst := by simp [join, deeper, Function.comp_def]
    rw [hj, List.append_assoc]
    exact hl

/-- Heights: of each tree, and no other root is lighter than its heavier child. -/
def HighF (W : List Nat) (F : List Tr) : Prop := ∀ t ∈ F, ∃ h g, High W t h g ∧ ∀ u ∈ F, u.1 ≠ t.1 → g ≤ W.getD u.1 0
theorem HighF.perm {W : List Nat} {F F' : List Tr} (h : HighF W F) (hp : F.Perm F') : HighF W F' := fun t ht => by
  obtain ⟨a, g, h1, h2⟩ := h t (hp.mem_iff.2 ht)
  exact ⟨a, g, h1, fun u hu => h2 u (hp.mem_iff.2 hu)⟩
theorem fib_pos : ∀ k, 1 ≤ fib (k + 1)
  | 0 => Nat.le_refl _
  | k + 1 => by have := fib_pos k; rw [fib]; omega
theorem high_join {W : List Nat} {s t : Tr} {m ha ga hb gb : Nat} (h1 : High W s ha ga) (h2 : High W t hb gb) (hm : W.length = m) (hga : ga ≤ W.getD t.1 0) (hgb : gb ≤ W.getD s.1 0) :
    High (W ++ [W.getD s.1 0 + W.getD t.1 0]) (join m s t) (max ha hb + 1) (max (W.getD s.1 0) (W.getD t.1 0)) := by
  have hl : (W ++ [W.getD s.1 0 + W.getD t.1 0]).getD (join m s t).1 0 = W.getD s.1 0 + W.getD t.1 0 := by
    show (W ++ [W.getD s.1 0 + W.getD t.1 0]).getD m 0 = _
    rw [← hm, getD_last]
  generalize hA : W.getD s.1 0 = A at *
  generalize hB : W.getD t.1 0 = B at *
  have a2 := h1.2.1
  have b2 := h2.2.1
  rw [hA] at a2
  rw [hB] at b2
  have a3 := h1.2.2
  have b3 := h2.2.2
  refine ⟨fun p hp => ?_, ?_, fun _ => ?_⟩
  · simp only [join, deeper, List.mem_map, List.mem_append] at hp
    obtain ⟨q, hq, rfl⟩ := hp
    rcases hq with hq | hq
    · have := h1.1 q hq; simp only; omega
    · have := h2.1 q hq; simp only; omega
  · rw [hl]
    rcases Nat.le_total hb ha with hle | hle
    · rw [Nat.max_eq_left hle]
      rcases Nat.eq_zero_or_pos ha with h0 | h0
      · have : hb = 0 := by omega
        subst h0 this
        simp only [fib] at a2 b2 ⊢; omega
      · have e : fib (ha + 1 + 2) = fib (ha + 2) + fib (ha + 1) := rfl
        have := a3 h0
        omega
    · rw [Nat.max_eq_right hle]
      rcases Nat.eq_zero_or_pos hb with h0 | h0
      · have : ha = 0 := by omega
        subst h0 this
        simp only [fib] at a2 b2 ⊢; omega
      · have e : fib (hb + 1 + 2) = fib (hb + 2) + fib (hb + 1) := rfl
        have := b3 h0
        omega
  · rcases Nat.le_total hb ha with hle | hle
    · rw [Nat.max_eq_left hle, show ha + 1 + 1 = ha + 2 by omega]; omega
    · rw [Nat.max_eq_right hle, show hb + 1 + 1 = hb + 2 by omega]; omega
theorem High.turn {W : List Nat} {t : Tr} {h g x : Nat} (hh : High W t h g) (ht : t.1 < W.length) : High (W ++ [x]) t h g := by
  refine ⟨hh.1, ?_, hh.2.2⟩
  rw [getD_snoc _ _ _ ht]; exact hh.2.1
theorem HighF.step {n : Nat} {w W over : List Nat} {s t : Tr} {R : List Tr} (hF : Forest n w W over (s :: t :: R)) (h : HighF W (s :: t :: R)) (m : Nat) (hm : W.length = m)
    (hs : ∀ u ∈ R, W.getD s.1 0 ≤ W.getD u.1 0) (ht : ∀ u ∈ R, W.getD t.1 0 ≤ W.getD u.1 0) : HighF (W ++ [W.getD s.1 0 + W.getD t.1 0]) (join m s t :: R) := by
  have hd := hF.distinct
  simp only [List.map_cons, List.nodup_cons, List.mem_cons, List.mem_map, not_or, not_exists, not_and] at hd
  have hl : (W ++ [W.getD s.1 0 + W.getD t.1 0]).getD m 0 = W.getD s.1 0 + W.getD t.1 0 := by rw [← hm, getD_last]
  have hlt : ∀ u ∈ R, u.1 < W.length := fun u hu => (hF.ok u (by simp [hu])).root.1
  intro u hu
  rcases List.mem_cons.1 hu with rfl | hu
  · obtain ⟨ha, ga, a1, a2⟩ := h s (by simp)
    obtain ⟨hb, gb, b1, b2⟩ := h t (by simp)
    refine ⟨_, _, high_join a1 b1 hm (a2 t (by simp) (fun e => hd.1.1 e.symm)) (b2 s (by simp) hd.1.1), fun v hv hne => ?_⟩
    rcases List.mem_cons.1 hv with rfl | hv
    · exact absurd rfl hne
    · rw [getD_snoc _ _ _ (hlt v hv)]
      exact Nat.max_le.2 ⟨hs v hv, ht v hv⟩
  · obtain ⟨a, g, h1, h2⟩ := h u (by simp [hu])
    refine ⟨a, g, h1.turn (hlt u hu), fun v hv hne => ?_⟩
    rcases List.mem_cons.1 hv with rfl | hv
    · show g ≤ (W ++ [W.getD s.1 0 + W.getD t.1 0]).getD m 0
      rw [hl]
      have := h2 s (by simp) (fun e => hd.1.2 u hu e.symm)
      omega
    · rw [getD_snoc _ _ _ (hlt v hv)]
      exact h2 v (by simp [hv]) hne

/-- The cost of all the leaves. -/
def cTot (w : List Nat) (F : List Tr) : Nat := (F.map fun t => cSum w t.2).sum
theorem cTot_perm {w : List Nat} {F F' : List Tr} (hp : F.Perm F') : cTot w F = cTot w F' := (hp.map _).sum_nat
theorem cTot_step {w W over : List Nat} {s t : Tr} {R : List Tr} {m : Nat} (hs : TrOk w W over s) (ht : TrOk w W over t) : cTot w (join m s t :: R) = cTot w (s :: t :: R) + (W.getD s.1 0 + W.getD t.1 0) := by
  simp only [cTot, List.map_cons, List.sum_cons, join]
  rw [cSum_deeper, cSum_append, wSum_append, hs.weight, ht.weight]; omega

/-- One joining. -/
def hstep (s : List Nat × List Nat) : List Nat × List Nat :=
  let a := (leastI s.1 s.2 s.1.length).getD 0
  let o1 := s.2.set a s.1.length
  let b := (leastI s.1 o1 s.1.length).getD 0
  (s.1 ++ [s.1.getD a 0 + s.1.getD b 0], o1.set b s.1.length ++ [0])
theorem take_tree {F : List Tr} {t : Tr} (h : t ∈ F) : ∃ R, F.Perm (t :: R) := ⟨F.erase t, List.perm_cons_erase h⟩
/-- The two lightest roots' trees, and what a joining leaves. -/
theorem hstep_forest {n : Nat} {w W over : List Nat} {F : List Tr} (h : Forest n w W over F) (h2 : 2 ≤ F.length) (hW : W.length ≠ 0) :
    ∃ s t R, F.Perm (s :: t :: R) ∧ leastI W over W.length = some s.1 ∧ leastI W (over.set s.1 W.length) W.length = some t.1 ∧ (∀ u ∈ R, W.getD s.1 0 ≤ W.getD u.1 0) ∧ (∀ u ∈ R, W.getD t.1 0 ≤ W.getD u.1 0) ∧ W.getD s.1 0 ≤ W.getD t.1 0 ∧
      hstep (W, over) = (W ++ [W.getD s.1 0 + W.getD t.1 0], (over.set s.1 W.length).set t.1 W.length ++ [0]) := by
  obtain ⟨t0, ht0⟩ : ∃ t, t ∈ F := by
    cases F with
    | nil => simp at h2
    | cons t _ => exact ⟨t, by simp⟩
  have hr0 := (h.ok t0 ht0).root
  rcases leastI_spec W over W.length with ⟨-, hno⟩ | ⟨a, hla, hisa⟩
  · exact absurd hr0.2 (hno t0.1 hr0.1)
  obtain ⟨s, hs, rfl⟩ := h.roots a hisa.1 hisa.2.1
  obtain ⟨F1, hp1⟩ := take_tree hs
  have hl1 := hp1.length_eq
  have hF1 := h.perm hp1
  have hd1 := hF1.distinct
  simp only [List.map_cons, List.nodup_cons, List.mem_map, not_exists, not_and] at hd1
  obtain ⟨t1, ht1⟩ : ∃ t, t ∈ F1 := by
    cases F1 with
    | nil => simp at hl1; omega
    | cons t _ => exact ⟨t, by simp⟩
  have hr1 := (hF1.ok t1 (by simp [ht1])).root
  have hsr := (hF1.ok s (by simp)).root
  have hov : ∀ j, (over.set s.1 W.length).getD j 0 = if j = s.1 then W.length else over.getD j 0 := by
    intro j
    rw [getD_set]
    by_cases hj : j = s.1
    · rw [if_pos ⟨hj, by rw [h.len]; exact hsr.1⟩, if_pos hj]
    · rw [if_neg (fun h => hj h.1), if_neg hj]
  rcases leastI_spec W (over.set s.1 W.length) W.length with ⟨-, hno⟩ | ⟨b, hlb, hisb⟩
  · exact absurd (by rw [hov, if_neg (hd1.1 t1 ht1)]; exact hr1.2) (hno t1.1 hr1.1)
  have hbs : b ≠ s.1 := by
    rintro rfl
    have := hisb.2.1
    rw [hov, if_pos rfl] at this
    exact hW this
  have hb0 : over.getD b 0 = 0 := by have := hisb.2.1; rwa [hov, if_neg hbs] at this
  obtain ⟨t, ht, rfl⟩ := hF1.roots b hisb.1 hb0
  have htF : t ∈ F1 := by
    rcases List.mem_cons.1 ht with rfl | h3
    · exact absurd rfl hbs
    · exact h3
  obtain ⟨R, hp2⟩ := take_tree htF
  have hp : F.Perm (s :: t :: R) := hp1.trans (hp2.cons s)
  have hF2 := h.perm hp
  have hd2 := hF2.distinct
  simp only [List.map_cons, List.nodup_cons, List.mem_cons, List.mem_map, not_or, not_exists, not_and] at hd2
  have hsle : ∀ j, j < W.length → over.getD j 0 = 0 → W.getD s.1 0 ≤ W.getD j 0 := fun j h3 h4 => by have := hisa.2.2 j h3 h4; omega
  refine ⟨s, t, R, hp, hla, hlb, fun u hu => ?_, fun u hu => ?_, ?_, ?_⟩
  · have hu0 := (hF2.ok u (by simp [hu])).root
    exact hsle _ hu0.1 hu0.2
  · have hu0 := (hF2.ok u (by simp [hu])).root
    have := hisb.2.2 u.1 hu0.1 (by rw [hov, if_neg (hd2.1.2 u hu)]; exact hu0.2)
    omega
  · exact hsle _ hisb.1 hb0
  · unfold hstep
    simp only [hla, Option.getD_some, hlb]
end K
end Go.Proofs.Ytcjkjknahalpnaa
