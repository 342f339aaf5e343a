/-
  Trees of least weight: the whole run, plainly; the lengths that it tells.
-/
import Derived.Test.YtcjkjknahalpnaaHufC
namespace Go.Proofs.Ytcjkjknahalpnaa
namespace K
set_option linter.unusedVariables false
set_option linter.unusedSimpArgs false

/-- So many joinings. -/
def hrun (w : List Nat) : Nat → List Nat × List Nat
  | 0 => (w, List.replicate w.length 0)
  | k + 1 => hstep (hrun w k)
theorem hstep_len (s : List Nat × List Nat) : (hstep s).1.length = s.1.length + 1 := by simp [hstep]
theorem hrun_len (w : List Nat) : ∀ k, (hrun w k).1.length = w.length + k
  | 0 => rfl
  | k + 1 => by rw [hrun, hstep_len, hrun_len w k]; omega
/-- What any lengths cost at least, tree by tree. -/
def BestF (w W : List Nat) (F : List Tr) (C : Nat) : Prop := ∃ xs : List (Nat × Nat), (xs.map Prod.fst).Perm (F.map fun t => W.getD t.1 0) ∧ (∀ p ∈ xs, p.2 ≤ 20) ∧ kx xs ≤ 2 ^ 20 ∧ cx xs + cTot w F ≤ C
def start (n : Nat) : List Tr := (List.range n).map fun i => (i, [(i, 0)])
theorem rep_zero (n j : Nat) : (List.replicate n 0).getD j 0 = 0 := by
  rw [List.getD, List.getElem?_replicate]; split <;> rfl
theorem start_forest (w : List Nat) : Forest w.length w w (List.replicate w.length 0) (start w.length) := by
  refine ⟨by simp, Nat.le_refl _, fun t ht => ?_, fun r hr _ => ?_, ?_, ?_⟩
  · simp only [start, List.mem_map, List.mem_range] at ht
    obtain ⟨i, hi, rfl⟩ := ht
    refine ⟨⟨hi, rep_zero _ _⟩, fun p hp => ?_, ?_, fun L _ => ?_, by simp⟩
    · simp at hp; subst hp; exact .here i
    · simp [wSum]
    · simp [kSum]
  · exact ⟨(r, [(r, 0)]), by simp [start]; exact hr, rfl⟩
  · simp only [start, List.map_map, Function.comp_def]
    simp [List.nodup_range]
  · simp only [start, List.flatMap_map, List.map_flatMap]
    simp
theorem start_high (w : List Nat) (hw : ∀ x ∈ w, 1 ≤ x) : HighF w (start w.length) := by
  intro t ht
  simp only [start, List.mem_map, List.mem_range] at ht
  obtain ⟨i, hi, rfl⟩ := ht
  refine ⟨0, 0, ⟨fun p hp => by simp at hp; subst hp; exact Nat.le_refl _, ?_, fun h => by omega⟩, fun u _ _ => Nat.zero_le _⟩
  have : w.getD i 0 = w[i] := by rw [List.getD, List.getElem?_eq_getElem hi]; rfl
  simp only [this]
  exact hw _ (List.getElem_mem hi)
theorem start_cost (w : List Nat) (n : Nat) : cTot w (start n) = 0 := by
  have : ∀ l : List Nat, ((l.map fun i => ((i, [(i, 0)]) : Tr)).map fun t => cSum w t.2).sum = 0 := by
    intro l
    induction l with
    | nil => rfl
    | cons x l ih => simp only [List.map_cons, List.sum_cons, ih]; simp [cSum]
  exact this _
theorem start_best (w l : List Nat) (hl : l.length = w.length) (h20 : ∀ x ∈ l, x ≤ 20) (hk : (l.map fun x => 2 ^ (20 - x)).sum ≤ 2 ^ 20) : BestF w w (start w.length) ((w.zip l).map fun p => p.1 * p.2).sum := by
  refine ⟨w.zip l, ?_, fun p hp => h20 _ (List.of_mem_zip hp).2, ?_, ?_⟩
  · rw [List.map_fst_zip (by omega), start, List.map_map]
    have : (List.range w.length).map ((fun t : Tr => w.getD t.1 0) ∘ fun i => (i, [(i, 0)])) = w := by
      apply List.ext_getElem?
      intro i
      by_cases h : i < w.length
      · rw [List.getElem?_map, List.getElem?_range h, List.getElem?_eq_getElem h]
        simp [List.getD, List.getElem?_eq_getElem h]
      · rw [List.getElem?_eq_none (by simp; omega), List.getElem?_eq_none (by omega)]
    rw [this]
  · unfold kx
    have : (w.zip l).map (fun p => 2 ^ (20 - p.2)) = ((w.zip l).map Prod.snd).map fun x => 2 ^ (20 - x) := by rw [List.map_map]; rfl
    rw [this, List.map_snd_zip (by omega)]
    exact hk
  · rw [start_cost]; exact Nat.le_refl _
theorem BestF.perm {w W : List Nat} {F F' : List Tr} {C : Nat} (h : BestF w W F C) (hp : F.Perm F') : BestF w W F' C := by
  obtain ⟨xs, h1, h2, h3, h4⟩ := h
  exact ⟨xs, h1.trans (hp.map _), h2, h3, by rw [← cTot_perm hp]; exact h4⟩
theorem BestF.step {n : Nat} {w W over : List Nat} {s t : Tr} {R : List Tr} {C : Nat} (hF : Forest n w W over (s :: t :: R)) (h : BestF w W (s :: t :: R) C) (m : Nat) (hm : W.length = m)
    (ht : ∀ u ∈ R, W.getD t.1 0 ≤ W.getD u.1 0) (hst : W.getD s.1 0 ≤ W.getD t.1 0) : BestF w (W ++ [W.getD s.1 0 + W.getD t.1 0]) (join m s t :: R) C := by
  obtain ⟨xs, h1, h2, h3, h4⟩ := h
  have hlt : ∀ u ∈ R, u.1 < W.length := fun u hu => (hF.ok u (by simp [hu])).root.1
  simp only [List.map_cons] at h1
  obtain ⟨ys, y1, y2, y3, y4⟩ := exch _ xs _ _ _ (Nat.le_refl _) h2 h3 h1 hst (fun x hx => by
    obtain ⟨u, hu, rfl⟩ := List.mem_map.1 hx
    exact ht u hu)
  refine ⟨ys, ?_, y2, y3, ?_⟩
  · rw [List.map_cons]
    have e1 : (W ++ [W.getD s.1 0 + W.getD t.1 0]).getD (join m s t).1 0 = W.getD s.1 0 + W.getD t.1 0 := by
      show (W ++ [W.getD s.1 0 + W.getD t.1 0]).getD m 0 = _
      rw [← hm, getD_last]
    have e2 : R.map (fun u => (W ++ [W.getD s.1 0 + W.getD t.1 0]).getD u.1 0) = R.map fun u => W.getD u.1 0 := List.map_congr_left fun u hu => getD_snoc _ _ _ (hlt u hu)
    rw [e1, e2]; exact y1
  · rw [cTot_step (hF.ok s (by simp)) (hF.ok t (by simp))]; omega

/-- What stands behind k joinings. -/
theorem hrun_ok (w : List Nat) (hw : ∀ x ∈ w, 1 ≤ x) (h0 : 1 ≤ w.length) : ∀ k, k + 1 ≤ w.length → ∃ F, Forest w.length w (hrun w k).1 (hrun w k).2 F ∧ HighF (hrun w k).1 F ∧ F.length + k = w.length ∧
    ∀ C, BestF w w (start w.length) C → BestF w (hrun w k).1 F C
  | 0, _ => ⟨start w.length, start_forest w, start_high w hw, by simp [start], fun C h => h⟩
  | k + 1, hk => by
    obtain ⟨F, f1, f2, f3, f4⟩ := hrun_ok w hw h0 k (by omega)
    have hl := hrun_len w k
    obtain ⟨s, t, R, hp, -, -, hs, ht, hst, he⟩ := hstep_forest f1 (by omega) (by omega)
    have hpl := hp.length_eq
    have g1 := (f1.perm hp).step _ rfl (by omega)
    have g2 := HighF.step (f1.perm hp) (f2.perm hp) _ rfl hs ht
    refine ⟨join (hrun w k).1.length s t :: R, ?_, ?_, ?_, fun C hC => ?_⟩
    · rw [hrun, show hrun w k = ((hrun w k).1, (hrun w k).2) from rfl, he]; exact g1
    · rw [hrun, show hrun w k = ((hrun w k).1, (hrun w k).2) from rfl, he]; exact g2
    · simp only [List.length_cons] at hpl ⊢; omega
    · rw [hrun, show hrun w k = ((hrun w k).1, (hrun w k).2) from rfl, he]
      exact BestF.step (f1.perm hp) ((f4 C hC).perm hp) _ rfl ht hst

/-- The lengths that a run tells. -/
structure LensOf (w ls over : List Nat) : Prop where
  len : ls.length = w.length
  up : ∀ i, i < w.length → ∃ r, Up over i (ls.getD i 0) r ∧ over.getD r 0 = 0
  kraft : ∀ L, (∀ x ∈ ls, x ≤ L) → (ls.map fun x => 2 ^ (L - x)).sum = 2 ^ L
  low : ∃ h, (∀ x ∈ ls, x ≤ h) ∧ fib (h + 2) ≤ w.sum
  best : ∀ l : List Nat, l.length = w.length → (∀ x ∈ l, x ≤ 20) → (l.map fun x => 2 ^ (20 - x)).sum ≤ 2 ^ 20 → ((w.zip ls).map fun p => p.1 * p.2).sum ≤ ((w.zip l).map fun p => p.1 * p.2).sum
theorem range_zip (w ls : List Nat) (h : ls.length = w.length) : ((List.range w.length).map fun i => w.getD i 0 * ls.getD i 0) = (w.zip ls).map fun p => p.1 * p.2 := by
  apply List.ext_getElem?
  intro i
  by_cases hi : i < w.length
  · rw [List.getElem?_map, List.getElem?_range hi, List.getElem?_map, List.getElem?_eq_getElem (by simp; omega)]
    simp [List.getD, List.getElem?_eq_getElem hi, List.getElem?_eq_getElem (show i < ls.length by omega)]
  · rw [List.getElem?_eq_none (by simp; omega), List.getElem?_eq_none (by simp; omega)]
theorem range_getD (ls : List Nat) : (List.range ls.length).map (fun i => ls.getD i 0) = ls := by
  apply List.ext_getElem?
  intro i
  by_cases hi : i < ls.length
  · rw [List.getElem?_map, List.getElem?_range hi]
    simp [List.getD, List.getElem?_eq_getElem hi]
  · rw [List.getElem?_eq_none (by simp; omega), List.getElem?_eq_none (by omega)]
theorem hrun_lens (w : List Nat) (hw : ∀ x ∈ w, 1 ≤ x) (h0 : 1 ≤ w.length) : ∃ ls, LensOf w ls (hrun w (w.length - 1)).2 := by
  obtain ⟨F, f1, f2, f3, f4⟩ := hrun_ok w hw h0 (w.length - 1) (by omega)
  have hF1 : F.length = 1 := by omega
  obtain ⟨t, rfl⟩ : ∃ t, F = [t] := by
    match F, hF1 with
    | [t], _ => exact ⟨t, rfl⟩
  generalize hrun w (w.length - 1) = s at *
  obtain ⟨W, over⟩ := s
  simp only at f1 f2 f4 ⊢
  have ht := f1.ok t (by simp)
  have hlv : (t.2.map Prod.fst).Perm (List.range w.length) := by have := f1.leaves; simpa using this
  obtain ⟨ls, hls⟩ : ∃ ls : List Nat, ls = (List.range w.length).map fun i => ((t.2.find? fun p => p.1 == i).map Prod.snd).getD 0 := ⟨_, rfl⟩
  have hlen : ls.length = w.length := by rw [hls]; simp
  have hfind : ∀ i, i < w.length → ∃ d, (i, d) ∈ t.2 ∧ ls.getD i 0 = d := by
    intro i hi
    have hm : i ∈ t.2.map Prod.fst := hlv.mem_iff.2 (List.mem_range.2 hi)
    obtain ⟨p, hp, rfl⟩ := List.mem_map.1 hm
    cases hf : t.2.find? fun q => q.1 == p.1 with
    | none =>
      have := List.find?_eq_none.1 hf p hp
      simp at this
    | some q =>
      have hq := List.mem_of_find?_eq_some hf
      have hqe : q.1 = p.1 := by simpa using List.find?_some hf
      refine ⟨q.2, by rw [← hqe]; exact hq, ?_⟩
      rw [hls, List.getD, List.getElem?_map, List.getElem?_range hi]
      simp [hf]
  have hval : ∀ p ∈ t.2, p.2 = ls.getD p.1 0 := by
    intro p hp
    have hi : p.1 < w.length := List.mem_range.1 (hlv.mem_iff.1 (List.mem_map.2 ⟨p, hp, rfl⟩))
    obtain ⟨d, hd, he⟩ := hfind p.1 hi
    rw [he]
    exact ((ht.up p hp).one ht.root.2 (show Up over p.1 d t.1 from ht.up (p.1, d) hd) ht.root.2).1
  have hperm : t.2.Perm ((List.range w.length).map fun i => (i, ls.getD i 0)) := by
    have e : t.2 = (t.2.map Prod.fst).map fun i => (i, ls.getD i 0) := by
      rw [List.map_map]
      conv => lhs; rw [← List.map_id t.2]
      exact List.map_congr_left fun p hp => by simp only [id, Function.comp]; rw [← hval p hp]
    rw [e]; exact hlv.map _
  have hkr : ∀ (g : Nat × Nat → Nat), (t.2.map g).sum = ((List.range w.length).map fun i => g (i, ls.getD i 0)).sum := by
    intro g
    have := (hperm.map g).sum_nat
    rw [List.map_map] at this
    exact this
  refine ⟨ls, hlen, fun i hi => ?_, fun L hL => ?_, ?_, fun l h1 h2 h3 => ?_⟩
  · obtain ⟨d, hd, he⟩ := hfind i hi
    exact ⟨t.1, by rw [he]; exact ht.up _ hd, ht.root.2⟩
  · have hk := ht.kraft L (fun p hp => by
      have hi : p.1 < w.length := List.mem_range.1 (hlv.mem_iff.1 (List.mem_map.2 ⟨p, hp, rfl⟩))
      rw [hval p hp, List.getD, List.getElem?_eq_getElem (by omega)]
      exact hL _ (List.getElem_mem _))
    unfold kSum at hk
    rw [hkr] at hk
    have e := range_getD ls
    rw [hlen] at e
    rw [← hk]
    conv => lhs; rw [← e]
    rw [List.map_map]; rfl
  · obtain ⟨h, g, a, -⟩ := f2 t (by simp)
    refine ⟨h, fun x hx => ?_, ?_⟩
    · obtain ⟨i, hi, rfl⟩ := List.mem_iff_getElem.1 hx
      obtain ⟨d, hd, he⟩ := hfind i (by omega)
      have := a.1 _ hd
      rw [List.getD, List.getElem?_eq_getElem hi] at he
      simp only [Option.getD_some] at he
      rw [he]; exact this
    · have hw2 := a.2.1
      rw [ht.weight] at hw2
      unfold wSum at hw2
      rw [hkr] at hw2
      simp only at hw2
      rwa [range_getD] at hw2
  · obtain ⟨xs, -, -, -, hc⟩ := f4 _ (start_best w l h1 h2 h3)
    have : cTot w [t] = ((w.zip ls).map fun p => p.1 * p.2).sum := by
      simp only [cTot, List.map_cons, List.map_nil, List.sum_cons, List.sum_nil, Nat.add_zero]
      unfold cSum
      rw [hkr, ← range_zip w ls hlen]
    omega
end K
end Go.Proofs.Ytcjkjknahalpnaa
