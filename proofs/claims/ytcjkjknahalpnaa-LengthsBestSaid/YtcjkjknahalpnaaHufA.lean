/-
  Trees of least weight, plainly: the two lightest roots are joined, again and again; what stands of each tree.
-/
import Derived.WalkKit
namespace Go.Proofs.Ytcjkjknahalpnaa
namespace K
set_option linter.unusedVariables false
set_option linter.unusedSimpArgs false

/-- The lightest root among the first k, of several the first. -/
def leastI (W over : List Nat) : Nat → Option Nat
  | 0 => none
  | k + 1 => match leastI W over k with
    | none => if over.getD k 0 = 0 then some k else none
    | some a => if over.getD k 0 = 0 ∧ W.getD k 0 < W.getD a 0 then some k else some a
/-- a is the lightest root among the first k. -/
def IsLeast (W over : List Nat) (k a : Nat) : Prop := a < k ∧ over.getD a 0 = 0 ∧ ∀ j, j < k → over.getD j 0 = 0 → W.getD a 0 < W.getD j 0 ∨ (W.getD a 0 = W.getD j 0 ∧ a ≤ j)
theorem IsLeast.one {W over : List Nat} {k a b : Nat} (h : IsLeast W over k a) (h' : IsLeast W over k b) : a = b := by
  have h1 := h.2.2 b h'.1 h'.2.1
  have h2 := h'.2.2 a h.1 h.2.1
  omega
theorem leastI_spec (W over : List Nat) : ∀ k, (leastI W over k = none ∧ ∀ j, j < k → over.getD j 0 ≠ 0) ∨ ∃ a, leastI W over k = some a ∧ IsLeast W over k a
  | 0 => .inl ⟨rfl, fun j hj => by omega⟩
  | k + 1 => by
    rcases leastI_spec W over k with ⟨h1, h2⟩ | ⟨a, h1, h2⟩
    · by_cases hk : over.getD k 0 = 0
      · refine .inr ⟨k, by rw [leastI, h1]; simp only [if_pos hk], by omega, hk, fun j hj hr => ?_⟩
        rcases Nat.lt_or_ge j k with h | h
        · exact absurd hr (h2 j h)
        · have : j = k := by omega
          subst this; exact .inr ⟨rfl, Nat.le_refl _⟩
      · refine .inl ⟨by rw [leastI, h1]; simp only [if_neg hk], fun j hj => ?_⟩
        rcases Nat.lt_or_ge j k with h | h
        · exact h2 j h
        · have : j = k := by omega
          subst this; exact hk
    · by_cases hk : over.getD k 0 = 0 ∧ W.getD k 0 < W.getD a 0
      · refine .inr ⟨k, by rw [leastI, h1]; simp only [if_pos hk], by omega, hk.1, fun j hj hr => ?_⟩
        rcases Nat.lt_or_ge j k with h | h
        · have := h2.2.2 j h hr; omega
        · have : j = k := by omega
          subst this; exact .inr ⟨rfl, Nat.le_refl _⟩
      · refine .inr ⟨a, by rw [leastI, h1]; simp only [if_neg hk], by have := h2.1; omega, h2.2.1, fun j hj hr => ?_⟩
        rcases Nat.lt_or_ge j k with h | h
        · exact h2.2.2 j h hr
        · have : j = k := by omega
          subst this
          have h3 := h2.1
          have h4 : ¬ W.getD j 0 < W.getD a 0 := fun h => hk ⟨hr, h⟩
          omega

/-- From i up so many steps to r. -/
inductive Up (over : List Nat) : Nat → Nat → Nat → Prop
  | here (i : Nat) : Up over i 0 i
  | step {i j d r : Nat} (h : over.getD i 0 = j) (h0 : j ≠ 0) (u : Up over j d r) : Up over i (d + 1) r
theorem Up.snoc {over : List Nat} {i d r j : Nat} (u : Up over i d r) (h : over.getD r 0 = j) (h0 : j ≠ 0) : Up over i (d + 1) j := by
  induction u with
  | here i => exact .step h h0 (.here j)
  | step h1 h2 u ih => exact .step h1 h2 (ih h)
theorem Up.congr {over over' : List Nat} {i d r : Nat} (u : Up over i d r) (h : ∀ j, over.getD j 0 ≠ 0 → over'.getD j 0 = over.getD j 0) : Up over' i d r := by
  induction u with
  | here i => exact .here i
  | step h1 h2 u ih => exact .step ((h _ (by rw [h1]; exact h2)).trans h1) h2 ih
theorem Up.one {over : List Nat} {i d r e q : Nat} (u : Up over i d r) (hr : over.getD r 0 = 0) (v : Up over i e q) (hq : over.getD q 0 = 0) : d = e ∧ r = q := by
  induction u generalizing e with
  | here i =>
    cases v with
    | here => exact ⟨rfl, rfl⟩
    | step h1 h2 _ => exact absurd (h1.symm.trans hr) h2
  | step h1 h2 u ih =>
    cases v with
    | here => exact absurd (h1.symm.trans hq) h2
    | step h3 h4 v =>
      have hj := h1.symm.trans h3
      subst hj
      obtain ⟨e1, e2⟩ := ih hr v
      exact ⟨by rw [e1], e2⟩
theorem getD_set (l : List Nat) (a x j : Nat) : (l.set a x).getD j 0 = if j = a ∧ a < l.length then x else l.getD j 0 := by
  rw [List.getD, List.getD, List.getElem?_set]
  by_cases h : a = j
  · subst h
    by_cases hl : a < l.length
    · simp [hl]
    · rw [if_pos rfl, if_neg hl, if_neg (by omega), List.getElem?_eq_none (by omega)]
  · rw [if_neg h, if_neg (by omega)]
theorem getD_zero (l : List Nat) (j : Nat) : (l ++ [0]).getD j 0 = l.getD j 0 := by
  rw [List.getD, List.getD, List.getElem?_append]
  by_cases h : j < l.length
  · rw [if_pos h]
  · rw [if_neg h, List.getElem?_eq_none (l := l) (by omega)]
    match hk : j - l.length with
    | 0 => rfl
    | k + 1 => rfl
theorem getD_snoc (l : List Nat) (x j : Nat) (h : j < l.length) : (l ++ [x]).getD j 0 = l.getD j 0 := by
  rw [List.getD, List.getD, List.getElem?_append_left h]
theorem getD_last (l : List Nat) (x : Nat) : (l ++ [x]).getD l.length 0 = x := by
  rw [List.getD, List.getElem?_append_right (Nat.le_refl _), Nat.sub_self]; rfl

/-- A tree: its root, its leaves with their depths. -/
abbrev Tr := Nat × List (Nat × Nat)
def deeper (l : List (Nat × Nat)) : List (Nat × Nat) := l.map fun p => (p.1, p.2 + 1)
def wSum (w : List Nat) (l : List (Nat × Nat)) : Nat := (l.map fun p => w.getD p.1 0).sum
def kSum (L : Nat) (l : List (Nat × Nat)) : Nat := (l.map fun p => 2 ^ (L - p.2)).sum
def cSum (w : List Nat) (l : List (Nat × Nat)) : Nat := (l.map fun p => w.getD p.1 0 * p.2).sum
def fib : Nat → Nat
  | 0 => 0
  | 1 => 1
  | k + 2 => fib (k + 1) + fib k
/-- What holds of a tree. -/
structure TrOk (w W over : List Nat) (t : Tr) : Prop where
  root : t.1 < W.length ∧ over.getD t.1 0 = 0
  up : ∀ p ∈ t.2, Up over p.1 p.2 t.1
  weight : W.getD t.1 0 = wSum w t.2
  kraft : ∀ L, (∀ p ∈ t.2, p.2 ≤ L) → kSum L t.2 = 2 ^ L
  ne : t.2 ≠ []
/-- The height of a tree, and the weight of its heavier child. -/
def High (W : List Nat) (t : Tr) (h g : Nat) : Prop := (∀ p ∈ t.2, p.2 ≤ h) ∧ fib (h + 2) ≤ W.getD t.1 0 ∧ (1 ≤ h → fib (h + 1) ≤ g)
/-- All the trees. -/
structure Forest (n : Nat) (w W over : List Nat) (F : List Tr) : Prop where
  len : over.length = W.length
  big : n ≤ W.length
  ok : ∀ t ∈ F, TrOk w W over t
  roots : ∀ r, r < W.length → over.getD r 0 = 0 → ∃ t ∈ F, t.1 = r
  distinct : (F.map Prod.fst).Nodup
  leaves : ((F.flatMap Prod.snd).map Prod.fst).Perm (List.range n)
theorem TrOk.turn {w W over W' over' : List Nat} {t : Tr} (h : TrOk w W over t) (hW : ∀ j, j < W.length → W'.getD j 0 = W.getD j 0) (hl : W.length ≤ W'.length) (ho : ∀ j, over.getD j 0 ≠ 0 → over'.getD j 0 = over.getD j 0) (hr : over'.getD t.1 0 = 0) : TrOk w W' over' t :=
  ⟨⟨Nat.lt_of_lt_of_le h.root.1 hl, hr⟩, fun p hp => (h.up p hp).congr ho, by rw [hW _ h.root.1]; exact h.weight, h.kraft, h.ne⟩
theorem wSum_deeper (w : List Nat) (l : List (Nat × Nat)) : wSum w (deeper l) = wSum w l := by simp [wSum, deeper, Function.comp_def]
theorem wSum_append (w : List Nat) (a b : List (Nat × Nat)) : wSum w (a ++ b) = wSum w a + wSum w b := by simp [wSum]
theorem cSum_append (w : List Nat) (a b : List (Nat × Nat)) : cSum w (a ++ b) = cSum w a + cSum w b := by simp [cSum]
theorem cSum_deeper (w : List Nat) : ∀ l : List (Nat × Nat), cSum w (deeper l) = cSum w l + wSum w l
  | [] => rfl
  | p :: l => by
    have := cSum_deeper w l
    simp only [cSum, deeper, wSum, List.map_cons, List.sum_cons] at this ⊢
    rw [this, Nat.mul_succ]; omega
theorem kSum_append (L : Nat) (a b : List (Nat × Nat)) : kSum L (a ++ b) = kSum L a + kSum L b := by simp [kSum]
theorem kSum_deeper (L : Nat) (l : List (Nat × Nat)) : kSum (L + 1) (deeper l) = kSum L l := by
  simp only [kSum, deeper, List.map_map]
  congr 1
  refine List.map_congr_left fun p _ => ?_
  simp only [Function.comp]
  rw [Nat.add_sub_add_right]
/-- Two trees joined under a new root. -/
def join (m : Nat) (s t : Tr) : Tr := (m, deeper (s.2 ++ t.2))
theorem join_ok {w W over : List Nat} {s t : Tr} {m : Nat} (hs : TrOk w W over s) (ht : TrOk w W over t) (hm : W.length = m) (ho : over.length = m) (hm0 : m ≠ 0) (hst : s.1 ≠ t.1) :
    TrOk w (W ++ [W.getD s.1 0 + W.getD t.1 0]) ((over.set s.1 m).set t.1 m ++ [0]) (join m s t) := by
  have hs1 := hs.root
  have ht1 := ht.root
  have hov : ∀ j, ((over.set s.1 m).set t.1 m ++ [0]).getD j 0 = if j = t.1 then m else if j = s.1 then m else over.getD j 0 := by
    intro j
    rw [getD_zero, getD_set, getD_set, List.length_set]
    by_cases h1 : j = t.1
    · rw [if_pos ⟨h1, by omega⟩, if_pos h1]
    · rw [if_neg (fun h => h1 h.1), if_neg h1]
      by_cases h2 : j = s.1
      · rw [if_pos ⟨h2, by omega⟩, if_pos h2]
      · rw [if_neg (fun h => h2 h.1), if_neg h2]
  have hcg : ∀ j, over.getD j 0 ≠ 0 → ((over.set s.1 m).set t.1 m ++ [0]).getD j 0 = over.getD j 0 := by
    intro j hj
    rw [hov, if_neg (by rintro rfl; exact hj ht1.2), if_neg (by rintro rfl; exact hj hs1.2)]
  refine ⟨⟨?_, ?_⟩, fun p hp => ?_, ?_, fun L hL => ?_, ?_⟩
  · show m < _
    rw [List.length_append, hm]; simp
  · show ((over.set s.1 m).set t.1 m ++ [0]).getD m 0 = 0
    rw [hov, if_neg (by omega), if_neg (by omega), List.getD, List.getElem?_eq_none (by omega)]; rfl
  · simp only [join, deeper, List.mem_map, List.mem_append] at hp
    obtain ⟨q, hq, rfl⟩ := hp
    rcases hq with hq | hq
    · refine ((hs.up q hq).congr hcg).snoc ?_ hm0
      rw [hov, if_neg hst, if_pos rfl]; rfl
    · refine ((ht.up q hq).congr hcg).snoc ?_ hm0
      rw [hov, if_pos rfl]; rfl
  · show (W ++ [W.getD s.1 0 + W.getD t.1 0]).getD m 0 = _
    rw [← hm, getD_last, join, wSum_deeper, wSum_append, hs.weight, ht.weight]
  · have hpos : 1 ≤ L := by
      cases hl : s.2 with
      | nil => exact absurd hl hs.ne
      | cons p r =>
        have := hL (p.1, p.2 + 1) (by simp only [join, deeper, List.mem_map, List.mem_append]; exact ⟨p, .inl (by rw [hl]; simp), rfl⟩)
        simp only at this
        omega
    obtain ⟨L', rfl⟩ : ∃ L', L = L' + 1 := ⟨L - 1, by omega⟩
    have h1 : ∀ p ∈ s.2, p.2 ≤ L' := fun p hp => by
      have := hL (p.1, p.2 + 1) (by simp only [join, deeper, List.mem_map, List.mem_append]; exact ⟨p, .inl hp, rfl⟩)
      simp only at this; omega
    have h2 : ∀ p ∈ t.2, p.2 ≤ L' := fun p hp => by
      have := hL (p.1, p.2 + 1) (by simp only [join, deeper, List.mem_map, List.mem_append]; exact ⟨p, .inr hp, rfl⟩)
      simp only at this; omega
    rw [join, kSum_deeper, kSum_append, hs.kraft L' h1, ht.kraft L' h2, Nat.pow_succ]; omega
  · simp only [join, deeper]
    intro h
    have : s.2 ++ t.2 = [] := by simpa using h
    exact hs.ne (List.append_eq_nil_iff.1 this).1
end K
end Go.Proofs.Ytcjkjknahalpnaa
