/-
  Flat lengths, plainly: a symbol is as long as the number of those in frontN of it says.
-/
import Derived.Test.YtcjkjknahalpnaaHufG
namespace Go.Proofs.Ytcjkjknahalpnaa
namespace K
set_option linter.unusedVariables false
set_option linter.unusedSimpArgs false

/-- Symbol j stands in frontN of symbol i. -/
def before (ws : List Nat) (i j : Nat) : Bool := decide (ws.getD i 0 < ws.getD j 0 ∨ (ws.getD j 0 = ws.getD i 0 ∧ j < i))
/-- How many of the first m stand in frontN of i. -/
def frontTo (ws : List Nat) (i m : Nat) : Nat := (List.range m).countP (before ws i)
def frontN (ws : List Nat) (i : Nat) : Nat := frontTo ws i ws.length
theorem frontTo_succ (ws : List Nat) (i m : Nat) : frontTo ws i (m + 1) = frontTo ws i m + if before ws i m then 1 else 0 := by
  unfold frontTo
  rw [List.range_succ, List.countP_append, List.countP_singleton]
theorem frontTo_le (ws : List Nat) (i m : Nat) : frontTo ws i m ≤ m := by
  unfold frontTo
  have := List.countP_le_length (p := before ws i) (l := List.range m)
  simpa using this
/-- The length that a flat code gives to the p-th of n symbols. -/
def flatAt (n p : Nat) : Nat := Nat.log2 n + if 2 ^ (Nat.log2 n + 1) - n ≤ p then 1 else 0
def flatL (ws : List Nat) : List Nat := (List.range ws.length).map fun i => flatAt ws.length (frontN ws i)
theorem flatL_length (ws : List Nat) : (flatL ws).length = ws.length := by simp [flatL]
theorem flatL_get (ws : List Nat) (i : Nat) (h : i < ws.length) : (flatL ws).getD i 0 = flatAt ws.length (frontN ws i) := by
  simp [flatL, List.getD, List.getElem?_range h, h]
theorem log2_is {n k : Nat} (h0 : n ≠ 0) (h1 : 2 ^ k ≤ n) (h2 : n < 2 ^ (k + 1)) : Nat.log2 n = k := (Nat.log2_eq_iff h0).2 ⟨h1, h2⟩
theorem log2_has {n : Nat} (h0 : n ≠ 0) : 2 ^ Nat.log2 n ≤ n ∧ n < 2 ^ (Nat.log2 n + 1) := (Nat.log2_eq_iff h0).1 rfl
/-- What is sorted has each where its frontN says. -/
theorem front_at {ws L : List Nat} (hp : L.Perm (List.range ws.length)) (hs : L.Pairwise fun a b => before ws a b = false) (p i : Nat) (h : L[p]? = some i) : frontN ws i = p := by
  have hnd : L.Nodup := hp.nodup_iff.2 List.nodup_range
  obtain ⟨hl, hv⟩ := List.getElem?_eq_some_iff.1 h
  have e : L = L.take p ++ i :: L.drop (p + 1) := by rw [← hv, ← List.drop_eq_getElem_cons hl, List.take_append_drop]
  unfold frontN frontTo
  rw [← hp.countP_eq, e, List.countP_append, List.countP_cons]
  rw [e] at hs hnd
  rw [List.pairwise_append] at hs
  obtain ⟨-, h2, h3⟩ := hs
  rw [List.nodup_append] at hnd
  have hself : before ws i i = false := by unfold before; simp
  have hA : (L.take p).countP (before ws i) = (L.take p).length := by
    rw [List.countP_eq_length]
    intro a ha
    have h4 := h3 a ha i (by simp)
    have h5 : a ≠ i := hnd.2.2 a ha i (by simp)
    unfold before at h4 ⊢
    rw [decide_eq_false_iff_not] at h4
    rw [decide_eq_true_eq]
    omega
  have hB : (L.drop (p + 1)).countP (before ws i) = 0 := by
    rw [List.countP_eq_zero]
    intro b hb
    have h4 := (List.pairwise_cons.1 h2).1 b hb
    rw [h4]; simp
  rw [hA, hB, hself]
  simp
  omega
/-- There is a sorted list. -/
theorem front_perm (ws : List Nat) : ((List.range ws.length).map (frontN ws)).Perm (List.range ws.length) := by
  let le : Nat → Nat → Bool := fun a b => !before ws a b
  have hp : ((List.range ws.length).mergeSort le).Perm (List.range ws.length) := List.mergeSort_perm _ _
  have hs := List.pairwise_mergeSort (le := le) (by
    intro a b c h1 h2
    simp only [le, before, Bool.not_eq_true', decide_eq_false_iff_not] at h1 h2 ⊢
    omega) (by
    intro a b
    simp only [le, before, Bool.or_eq_true, Bool.not_eq_true', decide_eq_false_iff_not]
    omega) (List.range ws.length)
  have hs' : ((List.range ws.length).mergeSort le).Pairwise fun a b => before ws a b = false := by simpa [le] using hs
  generalize (List.range ws.length).mergeSort le = L at hp hs'
  have e : L.map (frontN ws) = List.range ws.length := by
    apply List.ext_getElem?
    intro p
    have hl := hp.length_eq
    rw [List.length_range] at hl
    by_cases h : p < L.length
    · rw [List.getElem?_map, List.getElem?_eq_getElem h, List.getElem?_range (by omega)]
      simp only [Option.map_some, Option.some.injEq]
      exact front_at hp hs' p _ (List.getElem?_eq_getElem h)
    · rw [List.getElem?_eq_none (by simp; omega), List.getElem?_eq_none (by simp; omega)]
  exact ((hp.symm.map (frontN ws)).trans (by rw [e]))
theorem sum_two (g : Nat → Nat) (a b : Nat) (m : Nat) : ∀ n, (∀ p, p < m → g p = a) → (∀ p, m ≤ p → g p = b) → ((List.range n).map g).sum = (min m n) * a + (n - m) * b
  | 0, _, _ => by simp
  | n + 1, h1, h2 => by
    rw [List.range_succ, List.map_append, List.sum_append_nat, sum_two g a b m n h1 h2]
    simp only [List.map_cons, List.map_nil, List.sum_cons, List.sum_nil, Nat.add_zero]
    rcases Nat.lt_or_ge n m with h | h
    · rw [h1 n h, show min m (n + 1) = min m n + 1 by omega, show n + 1 - m = 0 by omega, show n - m = 0 by omega, Nat.add_mul]; omega
    · rw [h2 n h, show min m (n + 1) = min m n by omega, show n + 1 - m = (n - m) + 1 by omega, Nat.add_mul]; omega
theorem flat_full (ws : List Nat) (h2 : 2 ≤ ws.length) (h3 : ws.length ≤ 258) : ((flatL ws).map fun x => 2 ^ (20 - x)).sum = 2 ^ 20 := by
  have hn := log2_has (n := ws.length) (by omega)
  have hk8 : Nat.log2 ws.length ≤ 8 := by
    rcases Nat.lt_or_ge (Nat.log2 ws.length) 9 with h | h
    · omega
    · have := Nat.pow_le_pow_right (n := 2) (by omega) h
      omega
  unfold flatL
  rw [List.map_map]
  have e : (List.range ws.length).map ((fun x => 2 ^ (20 - x)) ∘ fun i => flatAt ws.length (frontN ws i)) = ((List.range ws.length).map (frontN ws)).map fun p => 2 ^ (20 - flatAt ws.length p) := by
    rw [List.map_map]; rfl
  rw [e, ((front_perm ws).map _).sum_nat, sum_two (fun p => 2 ^ (20 - flatAt ws.length p)) (2 ^ (20 - Nat.log2 ws.length)) (2 ^ (19 - Nat.log2 ws.length)) (2 ^ (Nat.log2 ws.length + 1) - ws.length)]
  · generalize Nat.log2 ws.length = k at *
    have e1 : 2 ^ (20 - k) = 2 * 2 ^ (19 - k) := by rw [show 20 - k = (19 - k) + 1 by omega, Nat.pow_succ]; omega
    have e2 : 2 ^ (k + 1) * 2 ^ (19 - k) = 2 ^ 20 := by rw [← Nat.pow_add, show k + 1 + (19 - k) = 20 by omega]
    have e3 : 2 ^ (k + 1) = 2 * 2 ^ k := by rw [Nat.pow_succ]; omega
    rw [e1, ← e2]
    generalize 2 ^ (19 - k) = q at *
    generalize 2 ^ (k + 1) = r at *
    rw [show min (r - ws.length) ws.length = r - ws.length by omega, show (r - ws.length) * (2 * q) = (2 * (r - ws.length)) * q by rw [Nat.mul_comm 2 (r - ws.length), Nat.mul_assoc], ← Nat.add_mul]
    congr 1
    omega
  · intro p hp
    unfold flatAt
    rw [if_neg (by omega)]; rfl
  · intro p hp
    unfold flatAt
    rw [if_pos hp]
    congr 1
    omega
theorem flatL_mem {ws : List Nat} {x : Nat} (h : x ∈ flatL ws) : Nat.log2 ws.length ≤ x ∧ x ≤ Nat.log2 ws.length + 1 := by
  unfold flatL at h
  obtain ⟨i, -, rfl⟩ := List.mem_map.1 h
  unfold flatAt
  split <;> omega
/-- No heavier symbol is longer. -/
theorem front_mono {ws : List Nat} {a b : Nat} (h : ws.getD b 0 < ws.getD a 0) : frontN ws a ≤ frontN ws b := by
  unfold frontN frontTo
  apply List.countP_mono_left
  intro j _ hj
  unfold before at hj ⊢
  rw [decide_eq_true_eq] at hj ⊢
  omega
theorem flatAt_mono (n : Nat) {p q : Nat} (h : p ≤ q) : flatAt n p ≤ flatAt n q := by
  unfold flatAt
  split <;> split <;> omega
end K
end Go.Proofs.Ytcjkjknahalpnaa
