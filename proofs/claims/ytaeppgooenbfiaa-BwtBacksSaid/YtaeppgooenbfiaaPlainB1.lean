/-
  The places of a text's bytes in their stable order, plainly.
-/
import Derived.WalkKit
namespace Go.Proofs.Ytaeppgooenbfiaa
namespace K
set_option linter.unusedVariables false
set_option linter.unusedSimpArgs false

/-- How many of l are below b. -/
def cLt (l : List Nat) (b : Nat) : Nat := l.countP (· < b)
/-- How many of the first k of l are b. -/
def cEq (l : List Nat) (k b : Nat) : Nat := (l.take k).count b
/-- Where the i-th of l stands in the stable order. -/
def pos (l : List Nat) (i : Nat) : Nat := cLt l (l.getD i 0) + cEq l i (l.getD i 0)
/-- The places of b among the first k. -/
def occ (l : List Nat) (b k : Nat) : List Nat := (List.range k).filter fun i => l.getD i 0 == b
def stab (l : List Nat) (b : Nat) : List Nat := (List.range b).flatMap fun c => occ l c l.length

theorem cLt_zero (l : List Nat) : cLt l 0 = 0 := by simp [cLt]
theorem cLt_succ (l : List Nat) (b : Nat) : cLt l (b + 1) = cLt l b + l.count b := by
  unfold cLt
  induction l with
  | nil => rfl
  | cons x l ih =>
    rw [List.countP_cons, List.countP_cons, List.count_cons, ih]
    by_cases h1 : x < b
    · have h2 : x < b + 1 := by omega
      have h3 : (x == b) = false := by simp; omega
      simp [h1, h2, h3]; omega
    · by_cases h2 : x = b
      · subst h2; simp; omega
      · have h3 : (x == b) = false := by simpa using h2
        have h4 : ¬ x < b + 1 := by omega
        simp [h1, h3, h4]
theorem cLt_le (l : List Nat) (b : Nat) : cLt l b ≤ l.length := List.countP_le_length
theorem cEq_zero (l : List Nat) (b : Nat) : cEq l 0 b = 0 := by simp [cEq]
theorem cEq_succ (l : List Nat) (k b x : Nat) (h : l[k]? = some x) : cEq l (k + 1) b = cEq l k b + if x = b then 1 else 0 := by
  unfold cEq
  rw [List.take_add_one, h, List.count_append]
  by_cases hx : x = b
  · subst hx; simp
  · simp [hx]
theorem cEq_all (l : List Nat) (b : Nat) : cEq l l.length b = l.count b := by simp [cEq]
theorem cEq_mono (l : List Nat) (b : Nat) {i k : Nat} (h : i ≤ k) : cEq l i b ≤ cEq l k b := by
  unfold cEq
  have : l.take i = (l.take k).take i := by rw [List.take_take, Nat.min_eq_left h]
  rw [this]
  exact (List.take_sublist i (l.take k)).count_le _
theorem cEq_lt (l : List Nat) (i x : Nat) (h : l[i]? = some x) : cEq l i x < l.count x := by
  have h1 := cEq_succ l i x x h
  have h2 := cEq_mono l x (i := i + 1) (k := l.length) (by have := (List.getElem?_eq_some_iff.1 h).1; omega)
  rw [cEq_all] at h2
  simp at h1
  omega
theorem cLt_mono (l : List Nat) {a b : Nat} (h : a ≤ b) : cLt l a ≤ cLt l b := by
  induction b with
  | zero => obtain rfl : a = 0 := by omega
            exact Nat.le_refl _
  | succ b ih =>
    by_cases h2 : a = b + 1
    · subst h2; exact Nat.le_refl _
    · have := ih (by omega); rw [cLt_succ]; omega
theorem pos_lt (l : List Nat) (i : Nat) (h : i < l.length) : pos l i < l.length := by
  unfold pos
  have hx : l[i]? = some (l.getD i 0) := by rw [List.getD, List.getElem?_eq_getElem h]; rfl
  generalize l.getD i 0 = x at *
  have h1 := cEq_lt l i x hx
  have h2 := cLt_succ l x
  have h3 := cLt_le l (x + 1)
  omega
theorem pos_inj (l : List Nat) (i j : Nat) (hi : i < l.length) (hj : j < l.length) (h : pos l i = pos l j) : i = j := by
  have hx : l[i]? = some (l.getD i 0) := by rw [List.getD, List.getElem?_eq_getElem hi]; rfl
  have hy : l[j]? = some (l.getD j 0) := by rw [List.getD, List.getElem?_eq_getElem hj]; rfl
  unfold pos at h
  generalize l.getD i 0 = x at *
  generalize l.getD j 0 = y at *
  have h1 := cEq_lt l i x hx
  have h2 := cEq_lt l j y hy
  have h3 := cLt_succ l x
  have h4 := cLt_succ l y
  have hxy : x = y := by
    rcases Nat.lt_trichotomy x y with h5 | h5 | h5
    · have := cLt_mono l (a := x + 1) (b := y) (by omega); omega
    · exact h5
    · have := cLt_mono l (a := y + 1) (b := x) (by omega); omega
  subst hxy
  have h5 := cEq_succ l i x x hx
  have h6 := cEq_succ l j x x hy
  rw [if_pos rfl] at h5 h6
  rcases Nat.lt_trichotomy i j with h7 | h7 | h7
  · have := cEq_mono l x (i := i + 1) (k := j) (by omega); omega
  · exact h7
  · have := cEq_mono l x (i := j + 1) (k := i) (by omega); omega

theorem occ_succ (l : List Nat) (b k x : Nat) (h : l[k]? = some x) : occ l b (k + 1) = occ l b k ++ if x = b then [k] else [] := by
  unfold occ
  have : l.getD k 0 = x := by rw [List.getD, h]; rfl
  rw [List.range_succ, List.filter_append]
  by_cases hx : x = b
  · subst hx; simp [this, -List.getD_eq_getElem?_getD]
  · simp [this, hx, -List.getD_eq_getElem?_getD]
theorem occ_length (l : List Nat) (b : Nat) : ∀ k, k ≤ l.length → (occ l b k).length = cEq l k b
  | 0, _ => by simp [occ, cEq]
  | k + 1, h => by
    have hx : l[k]? = some l[k] := List.getElem?_eq_getElem (by omega)
    rw [occ_succ l b k _ hx, cEq_succ l k b _ hx, List.length_append, occ_length l b k (by omega)]
    split <;> rfl
theorem stab_succ (l : List Nat) (b : Nat) : stab l (b + 1) = stab l b ++ occ l b l.length := by
  unfold stab; rw [List.range_succ, List.flatMap_append]; simp
theorem stab_length (l : List Nat) : ∀ b, (stab l b).length = cLt l b
  | 0 => by simp [stab, cLt_zero]
  | b + 1 => by rw [stab_succ, List.length_append, stab_length l b, occ_length l b _ (Nat.le_refl _), cEq_all, cLt_succ]
theorem mem_occ (l : List Nat) (b k i : Nat) : i ∈ occ l b k ↔ i < k ∧ l.getD i 0 = b := by simp [occ, -List.getD_eq_getElem?_getD]
theorem mem_stab (l : List Nat) (b i : Nat) : i ∈ stab l b ↔ i < l.length ∧ l.getD i 0 < b := by
  unfold stab
  simp only [List.mem_flatMap, List.mem_range, mem_occ]
  constructor
  · rintro ⟨c, h1, h2, h3⟩; exact ⟨h2, by omega⟩
  · rintro ⟨h1, h2⟩; exact ⟨_, h2, h1, rfl⟩
theorem occ_nodup (l : List Nat) (b k : Nat) : (occ l b k).Nodup := List.Nodup.sublist (List.filter_sublist) List.nodup_range
theorem stab_nodup (l : List Nat) : ∀ b, (stab l b).Nodup
  | 0 => by simp [stab]
  | b + 1 => by
    rw [stab_succ, List.nodup_append]
    refine ⟨stab_nodup l b, occ_nodup _ _ _, fun x hx y hy => ?_⟩
    rw [mem_stab] at hx
    rw [mem_occ] at hy
    rintro rfl
    omega
theorem stab_prefix (l : List Nat) (a : Nat) : ∀ b, a ≤ b → ∃ r, stab l b = stab l a ++ r
  | 0, h => by obtain rfl : a = 0 := by omega
               exact ⟨[], by simp⟩
  | b + 1, h => by
    by_cases h2 : a = b + 1
    · subst h2; exact ⟨[], by simp⟩
    · obtain ⟨r, hr⟩ := stab_prefix l a b (by omega)
      exact ⟨r ++ occ l b l.length, by rw [stab_succ, hr, List.append_assoc]⟩
theorem occ_prefix (l : List Nat) (b i : Nat) : ∀ k, i ≤ k → k ≤ l.length → ∃ r, occ l b k = occ l b i ++ r
  | 0, h, _ => by obtain rfl : i = 0 := by omega
                  exact ⟨[], by simp⟩
  | k + 1, h, hk => by
    by_cases h2 : i = k + 1
    · subst h2; exact ⟨[], by simp⟩
    · obtain ⟨r, hr⟩ := occ_prefix l b i k (by omega) (by omega)
      exact ⟨_, by rw [occ_succ l b k _ (List.getElem?_eq_getElem (by omega)), hr, List.append_assoc]⟩
theorem stab_pos (l : List Nat) (B i : Nat) (h : i < l.length) (hB : l.getD i 0 < B) : (stab l B)[pos l i]? = some i := by
  have hx : l[i]? = some (l.getD i 0) := by rw [List.getD, List.getElem?_eq_getElem h]; rfl
  unfold pos
  generalize l.getD i 0 = x at *
  obtain ⟨r, hr⟩ := stab_prefix l (x + 1) B (by omega)
  obtain ⟨q, hq⟩ := occ_prefix l x (i + 1) l.length (by omega) (Nat.le_refl _)
  rw [hr, stab_succ, hq, occ_succ l x i x hx, if_pos rfl]
  have e1 := stab_length l x
  have e2 := occ_length l x i (by omega)
  rw [List.append_assoc, List.append_assoc, List.append_assoc, List.getElem?_append_right (by omega), e1, List.getElem?_append_right (by omega), e2]
  simp
/-- A list that tells each place's place is the stable order. -/
theorem places_stab (l P : List Nat) (hb : ∀ x ∈ l, x < 256) (hl : P.length = l.length) (h : ∀ j, j < l.length → P[pos l j]? = some j) : P = stab l 256 := by
  have hall : ∀ i, i < l.length → l.getD i 0 < 256 := by
    intro i hi
    rw [List.getD, List.getElem?_eq_getElem hi]
    exact hb _ (List.getElem_mem hi)
  have hsl : (stab l 256).length = l.length := by
    rw [stab_length]
    unfold cLt
    rw [List.countP_eq_length]
    intro x hx; simpa using hb x hx
  apply List.ext_getElem?
  intro p
  by_cases hp : p < l.length
  · have hj := List.getElem?_eq_getElem (l := stab l 256) (i := p) (by omega)
    generalize (stab l 256)[p]'(by omega) = j at hj
    have hm : j ∈ stab l 256 := List.mem_of_getElem? hj
    rw [mem_stab] at hm
    have h2 := stab_pos l 256 j hm.1 hm.2
    have h3 : pos l j = p := by
      have hpl := pos_lt l j hm.1
      have hn := stab_nodup l 256
      have a1 := (List.getElem?_eq_some_iff.1 h2).2
      have a2 := (List.getElem?_eq_some_iff.1 hj).2
      have hne := List.pairwise_iff_getElem.1 (show (stab l 256).Pairwise (· ≠ ·) from hn)
      rcases Nat.lt_trichotomy (pos l j) p with h4 | h4 | h4
      · exact absurd (a1.trans a2.symm) (hne _ _ _ _ h4)
      · exact h4
      · exact absurd (a2.trans a1.symm) (hne _ _ _ _ h4)
    rw [hj, ← h3]
    exact h j hm.1
  · rw [List.getElem?_eq_none (by omega), List.getElem?_eq_none (by omega)]
/-- Reading on from place p: so many bytes. -/
def readB (l P : List Nat) : Nat → Nat → List Nat
  | 0, _ => []
  | k + 1, p => l.getD (P.getD p 0) 0 :: readB l P k (P.getD p 0)
def walkB (P : List Nat) : Nat → Nat → Nat
  | 0, p => p
  | k + 1, p => P.getD (walkB P k p) 0
theorem walkB_succ (P : List Nat) : ∀ k p, walkB P (k + 1) p = walkB P k (P.getD p 0)
  | 0, p => rfl
  | k + 1, p => by rw [walkB, walkB_succ P k p]; rfl
theorem readB_eq (l P : List Nat) : ∀ k p, readB l P k p = (List.range k).map fun t => l.getD (walkB P (t + 1) p) 0
  | 0, p => rfl
  | k + 1, p => by
    rw [readB, readB_eq l P k, List.range_succ_eq_map, List.map_cons, List.map_map]
    congr 1
    refine List.map_congr_left fun t _ => ?_
    simp only [Function.comp]
    rw [Nat.succ_eq_add_one, walkB_succ P (t + 1) p]
theorem readB_snoc (l P : List Nat) (k p : Nat) : readB l P (k + 1) p = readB l P k p ++ [l.getD (walkB P (k + 1) p) 0] := by
  rw [readB_eq, readB_eq, List.range_succ, List.map_append]; rfl
end K
end Go.Proofs.Ytaeppgooenbfiaa
