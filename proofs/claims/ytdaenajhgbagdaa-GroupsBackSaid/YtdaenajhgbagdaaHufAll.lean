/-
  Trees of least weight, plainly: the two lightest roots are joined, again and again; what stands of each tree. Trees of least weight: what stands behind each joining, and at the end. No lengths that may be cost less, plainly: the two lightest stand together in some best code. Trees of least weight: the whole run, plainly; the lengths that it tells. One step of a run, as the walks need it. The roots of a run as a list of trees, plainly: the least one taken, one put behind; what a run leaves in its list of tops. Lengths by tries, plainly: weights are halved till no length is above the most. Flat lengths, plainly: a symbol is as long as the number of those in frontN of it says.
-/
import Derived.WalkKit
namespace Go.Proofs.Ytdaenajhgbagdaa
namespace K
set_option linter.unusedVariables false
set_option linter.unusedSimpArgs false

/-- The lightest root among the first k, of several the first. -/
def leastI (W over : List Nat) : Nat → Option Nat
  | 0 => none
  | k + 1 => match leastI W over k with
    | none => if over.getD k 0 = 0 then some k else none
    | some a => if over.getD k 0 = 0 ∧ W.getD k 0 < W.getD a 0 then some k else some a
/-- a is the lightest root among the first k. -/
def IsLeast (W over : List Nat) (k a : Nat) : Prop := a < k ∧ over.getD a 0 = 0 ∧ ∀ j, j < k → over.getD j 0 = 0 → W.getD a 0 < W.getD j 0 ∨ (W.getD a 0 = W.getD j 0 ∧ a ≤ j)
theorem IsLeast.one {W over : List Nat} {k a b : Nat} (h : IsLeast W over k a) (h' : IsLeast W over k b) : a = b := by
  have h1 := h.2.2 b h'.1 h'.2.1
  have h2 := h'.2.2 a h.1 h.2.1
  omega
theorem leastI_spec (W over : List Nat) : ∀ k, (leastI W over k = none ∧ ∀ j, j < k → over.getD j 0 ≠ 0) ∨ ∃ a, leastI W over k = some a ∧ IsLeast W over k a
  | 0 => .inl ⟨rfl, fun j hj => by omega⟩
  | k + 1 => by
    rcases leastI_spec W over k with ⟨h1, h2⟩ | ⟨a, h1, h2⟩
    · by_cases hk : over.getD k 0 = 0
      · refine .inr ⟨k, by rw [leastI, h1]; simp only [if_pos hk], by omega, hk, fun j hj hr => ?_⟩
        rcases Nat.lt_or_ge j k with h | h
        · exact absurd hr (h2 j h)
        · have : j = k := by omega
          subst this; exact .inr ⟨rfl, Nat.le_refl _⟩
      · refine .inl ⟨by rw [leastI, h1]; simp only [if_neg hk], fun j hj => ?_⟩
        rcases Nat.lt_or_ge j k with h | h
        · exact h2 j h
        · have : j = k := by omega
          subst this; exact hk
    · by_cases hk : over.getD k 0 = 0 ∧ W.getD k 0 < W.getD a 0
      · refine .inr ⟨k, by rw [leastI, h1]; simp only [if_pos hk], by omega, hk.1, fun j hj hr => ?_⟩
        rcases Nat.lt_or_ge j k with h | h
        · have := h2.2.2 j h hr; omega
        · have : j = k := by omega
          subst this; exact .inr ⟨rfl, Nat.le_refl _⟩
      · refine .inr ⟨a, by rw [leastI, h1]; simp only [if_neg hk], by have := h2.1; omega, h2.2.1, fun j hj hr => ?_⟩
        rcases Nat.lt_or_ge j k with h | h
        · exact h2.2.2 j h hr
        · have : j = k := by omega
          subst this
          have h3 := h2.1
          have h4 : ¬ W.getD j 0 < W.getD a 0 := fun h => hk ⟨hr, h⟩
          omega

/-- From i up so many steps to r. -/
inductive Up (over : List Nat) : Nat → Nat → Nat → Prop
  | here (i : Nat) : Up over i 0 i
  | step {i j d r : Nat} (h : over.getD i 0 = j) (h0 : j ≠ 0) (u : Up over j d r) : Up over i (d + 1) r
theorem Up.snoc {over : List Nat} {i d r j : Nat} (u : Up over i d r) (h : over.getD r 0 = j) (h0 : j ≠ 0) : Up over i (d + 1) j := by
  induction u with
  | here i => exact .step h h0 (.here j)
  | step h1 h2 u ih => exact .step h1 h2 (ih h)
theorem Up.congr {over over' : List Nat} {i d r : Nat} (u : Up over i d r) (h : ∀ j, over.getD j 0 ≠ 0 → over'.getD j 0 = over.getD j 0) : Up over' i d r := by
  induction u with
  | here i => exact .here i
  | step h1 h2 u ih => exact .step ((h _ (by rw [h1]; exact h2)).trans h1) h2 ih
theorem Up.one {over : List Nat} {i d r e q : Nat} (u : Up over i d r) (hr : over.getD r 0 = 0) (v : Up over i e q) (hq : over.getD q 0 = 0) : d = e ∧ r = q := by
  induction u generalizing e with
  | here i =>
    cases v with
    | here => exact ⟨rfl, rfl⟩
    | step h1 h2 _ => exact absurd (h1.symm.trans hr) h2
  | step h1 h2 u ih =>
    cases v with
    | here => exact absurd (h1.symm.trans hq) h2
    | step h3 h4 v =>
      have hj := h1.symm.trans h3
      subst hj
      obtain ⟨e1, e2⟩ := ih hr v
      exact ⟨by rw [e1], e2⟩
theorem getD_set (l : List Nat) (a x j : Nat) : (l.set a x).getD j 0 = if j = a ∧ a < l.length then x else l.getD j 0 := by
  rw [List.getD, List.getD, List.getElem?_set]
  by_cases h : a = j
  · subst h
    by_cases hl : a < l.length
    · simp [hl]
    · rw [if_pos rfl, if_neg hl, if_neg (by omega), List.getElem?_eq_none (by omega)]
  · rw [if_neg h, if_neg (by omega)]
theorem getD_zero (l : List Nat) (j : Nat) : (l ++ [0]).getD j 0 = l.getD j 0 := by
  rw [List.getD, List.getD, List.getElem?_append]
  by_cases h : j < l.length
  · rw [if_pos h]
  · rw [if_neg h, List.getElem?_eq_none (l := l) (by omega)]
    match hk : j - l.length with
    | 0 => rfl
    | k + 1 => rfl
theorem getD_snoc (l : List Nat) (x j : Nat) (h : j < l.length) : (l ++ [x]).getD j 0 = l.getD j 0 := by
  rw [List.getD, List.getD, List.getElem?_append_left h]
theorem getD_last (l : List Nat) (x : Nat) : (l ++ [x]).getD l.length 0 = x := by
  rw [List.getD, List.getElem?_append_right (Nat.le_refl _), Nat.sub_self]; rfl

/-- A tree: its root, its leaves with their depths. -/
abbrev Tr := Nat × List (Nat × Nat)
def deeper (l : List (Nat × Nat)) : List (Nat × Nat) := l.map fun p => (p.1, p.2 + 1)
def wSum (w : List Nat) (l : List (Nat × Nat)) : Nat := (l.map fun p => w.getD p.1 0).sum
def kSum (L : Nat) (l : List (Nat × Nat)) : Nat := (l.map fun p => 2 ^ (L - p.2)).sum
def cSum (w : List Nat) (l : List (Nat × Nat)) : Nat := (l.map fun p => w.getD p.1 0 * p.2).sum
def fib : Nat → Nat
  | 0 => 0
  | 1 => 1
  | k + 2 => fib (k + 1) + fib k
/-- What holds of a tree. -/
structure TrOk (w W over : List Nat) (t : Tr) : Prop where
  root : t.1 < W.length ∧ over.getD t.1 0 = 0
  up : ∀ p ∈ t.2, Up over p.1 p.2 t.1
  weight : W.getD t.1 0 = wSum w t.2
  kraft : ∀ L, (∀ p ∈ t.2, p.2 ≤ L) → kSum L t.2 = 2 ^ L
  ne : t.2 ≠ []
/-- The height of a tree, and the weight of its heavier child. -/
def High (W : List Nat) (t : Tr) (h g : Nat) : Prop := (∀ p ∈ t.2, p.2 ≤ h) ∧ fib (h + 2) ≤ W.getD t.1 0 ∧ (1 ≤ h → fib (h + 1) ≤ g)
/-- All the trees. -/
structure Forest (n : Nat) (w W over : List Nat) (F : List Tr) : Prop where
  len : over.length = W.length
  big : n ≤ W.length
  ok : ∀ t ∈ F, TrOk w W over t
  roots : ∀ r, r < W.length → over.getD r 0 = 0 → ∃ t ∈ F, t.1 = r
  distinct : (F.map Prod.fst).Nodup
  leaves : ((F.flatMap Prod.snd).map Prod.fst).Perm (List.range n)
theorem TrOk.turn {w W over W' over' : List Nat} {t : Tr} (h : TrOk w W over t) (hW : ∀ j, j < W.length → W'.getD j 0 = W.getD j 0) (hl : W.length ≤ W'.length) (ho : ∀ j, over.getD j 0 ≠ 0 → over'.getD j 0 = over.getD j 0) (hr : over'.getD t.1 0 = 0) : TrOk w W' over' t :=
  ⟨⟨Nat.lt_of_lt_of_le h.root.1 hl, hr⟩, fun p hp => (h.up p hp).congr ho, by rw [hW _ h.root.1]; exact h.weight, h.kraft, h.ne⟩
theorem wSum_deeper (w : List Nat) (l : List (Nat × Nat)) : wSum w (deeper l) = wSum w l := by simp [wSum, deeper, Function.comp_def]
theorem wSum_append (w : List Nat) (a b : List (Nat × Nat)) : wSum w (a ++ b) = wSum w a + wSum w b := by simp [wSum]
theorem cSum_append (w : List Nat) (a b : List (Nat × Nat)) : cSum w (a ++ b) = cSum w a + cSum w b := by simp [cSum]
theorem cSum_deeper (w : List Nat) : ∀ l : List (Nat × Nat), cSum w (deeper l) = cSum w l + wSum w l
  | [] => rfl
  | p :: l => by
    have := cSum_deeper w l
    simp only [cSum, deeper, wSum, List.map_cons, List.sum_cons] at this ⊢
    rw [this, Nat.mul_succ]; omega
theorem kSum_append (L : Nat) (a b : List (Nat × Nat)) : kSum L (a ++ b) = kSum L a + kSum L b := by simp [kSum]
theorem kSum_deeper (L : Nat) (l : List (Nat × Nat)) : kSum (L + 1) (deeper l) = kSum L l := by
  simp only [kSum, deeper, List.map_map]
  congr 1
  refine List.map_congr_left fun p _ => ?_
  simp only [Function.comp]
  rw [Nat.add_sub_add_right]
/-- Two trees joined under a new root. -/
def join (m : Nat) (s t : Tr) : Tr := (m, deeper (s.2 ++ t.2))
theorem join_ok {w W over : List Nat} {s t : Tr} {m : Nat} (hs : TrOk w W over s) (ht : TrOk w W over t) (hm : W.length = m) (ho : over.length = m) (hm0 : m ≠ 0) (hst : s.1 ≠ t.1) :
    TrOk w (W ++ [W.getD s.1 0 + W.getD t.1 0]) ((over.set s.1 m).set t.1 m ++ [0]) (join m s t) := by
  have hs1 := hs.root
  have ht1 := ht.root
  have hov : ∀ j, ((over.set s.1 m).set t.1 m ++ [0]).getD j 0 = if j = t.1 then m else if j = s.1 then m else over.getD j 0 := by
    intro j
    rw [getD_zero, getD_set, getD_set, List.length_set]
    by_cases h1 : j = t.1
    · rw [if_pos ⟨h1, by omega⟩, if_pos h1]
    · rw [if_neg (fun h => h1 h.1), if_neg h1]
      by_cases h2 : j = s.1
      · rw [if_pos ⟨h2, by omega⟩, if_pos h2]
      · rw [if_neg (fun h => h2 h.1), if_neg h2]
  have hcg : ∀ j, over.getD j 0 ≠ 0 → ((over.set s.1 m).set t.1 m ++ [0]).getD j 0 = over.getD j 0 := by
    intro j hj
    rw [hov, if_neg (by rintro rfl; exact hj ht1.2), if_neg (by rintro rfl; exact hj hs1.2)]
  refine ⟨⟨?_, ?_⟩, fun p hp => ?_, ?_, fun L hL => ?_, ?_⟩
  · show m < _
    rw [List.length_append, hm]; simp
  · show ((over.set s.1 m).set t.1 m ++ [0]).getD m 0 = 0
    rw [hov, if_neg (by omega), if_neg (by omega), List.getD, List.getElem?_eq_none (by omega)]; rfl
  · simp only [join, deeper, List.mem_map, List.mem_append] at hp
    obtain ⟨q, hq, rfl⟩ := hp
    rcases hq with hq | hq
    · refine ((hs.up q hq).congr hcg).snoc ?_ hm0
      rw [hov, if_neg hst, if_pos rfl]; rfl
    · refine ((ht.up q hq).congr hcg).snoc ?_ hm0
      rw [hov, if_pos rfl]; rfl
  · show (W ++ [W.getD s.1 0 + W.getD t.1 0]).getD m 0 = _
    rw [← hm, getD_last, join, wSum_deeper, wSum_append, hs.weight, ht.weight]
  · have hpos : 1 ≤ L := by
      cases hl : s.2 with
      | nil => exact absurd hl hs.ne
      | cons p r =>
        have := hL (p.1, p.2 + 1) (by simp only [join, deeper, List.mem_map, List.mem_append]; exact ⟨p, .inl (by rw [hl]; simp), rfl⟩)
        simp only at this
        omega
    obtain ⟨L', rfl⟩ : ∃ L', L = L' + 1 := ⟨L - 1, by omega⟩
    have h1 : ∀ p ∈ s.2, p.2 ≤ L' := fun p hp => by
      have := hL (p.1, p.2 + 1) (by simp only [join, deeper, List.mem_map, List.mem_append]; exact ⟨p, .inl hp, rfl⟩)
      simp only at this; omega
    have h2 : ∀ p ∈ t.2, p.2 ≤ L' := fun p hp => by
      have := hL (p.1, p.2 + 1) (by simp only [join, deeper, List.mem_map, List.mem_append]; exact ⟨p, .inr hp, rfl⟩)
      simp only at this; omega
    rw [join, kSum_deeper, kSum_append, hs.kraft L' h1, ht.kraft L' h2, Nat.pow_succ]; omega
  · simp only [join, deeper]
    intro h
    have : s.2 ++ t.2 = [] := by simpa using h
    exact hs.ne (List.append_eq_nil_iff.1 this).1
end K
end Go.Proofs.Ytdaenajhgbagdaa
namespace Go.Proofs.Ytdaenajhgbagdaa
namespace K
set_option linter.unusedVariables false
set_option linter.unusedSimpArgs false

theorem Forest.perm {n : Nat} {w W over : List Nat} {F F' : List Tr} (h : Forest n w W over F) (hp : F.Perm F') : Forest n w W over F' :=
  ⟨h.len, h.big, fun t ht => h.ok t (hp.mem_iff.2 ht), fun r h1 h2 => by obtain ⟨t, ht, e⟩ := h.roots r h1 h2; exact ⟨t, hp.mem_iff.1 ht, e⟩, (hp.map _).nodup_iff.1 h.distinct,
    ((hp.flatMap_right _).map _).symm.trans h.leaves⟩
theorem Forest.step {n : Nat} {w W over : List Nat} {s t : Tr} {R : List Tr} (h : Forest n w W over (s :: t :: R)) (m : Nat) (hm : W.length = m) (hm0 : m ≠ 0) :
    Forest n w (W ++ [W.getD s.1 0 + W.getD t.1 0]) ((over.set s.1 m).set t.1 m ++ [0]) (join m s t :: R) := by
  have hs := h.ok s (by simp)
  have ht := h.ok t (by simp)
  have hd := h.distinct
  simp only [List.map_cons, List.nodup_cons, List.mem_cons, List.mem_map, not_or, not_exists, not_and] at hd
  have hst : s.1 ≠ t.1 := hd.1.1
  have ho : over.length = m := by rw [h.len, hm]
  have hov : ∀ j, ((over.set s.1 m).set t.1 m ++ [0]).getD j 0 = if j = t.1 then m else if j = s.1 then m else over.getD j 0 := by
    intro j
    have hs1 := hs.root
    have ht1 := ht.root
    rw [getD_zero, getD_set, getD_set, List.length_set]
    by_cases h1 : j = t.1
    · rw [if_pos ⟨h1, by omega⟩, if_pos h1]
    · rw [if_neg (fun h => h1 h.1), if_neg h1]
      by_cases h2 : j = s.1
      · rw [if_pos ⟨h2, by omega⟩, if_pos h2]
      · rw [if_neg (fun h => h2 h.1), if_neg h2]
  refine ⟨?_, ?_, fun u hu => ?_, fun r hr hr0 => ?_, ?_, ?_⟩
  · rw [List.length_append, List.length_append, List.length_set, List.length_set, h.len]; rfl
  · rw [List.length_append]; have := h.big; simp; omega
  · rcases List.mem_cons.1 hu with rfl | hu
    · exact join_ok hs ht hm ho hm0 hst
    · have hu0 := h.ok u (by simp [hu])
      refine hu0.turn (fun j hj => getD_snoc _ _ _ hj) (by rw [List.length_append]; omega) (fun j hj => ?_) ?_
      · rw [hov, if_neg (by rintro rfl; exact hj ht.root.2), if_neg (by rintro rfl; exact hj hs.root.2)]
      · rw [hov, if_neg (hd.2.1 u hu), if_neg (hd.1.2 u hu)]; exact hu0.root.2
  · rw [List.length_append, hm] at hr
    simp only [List.length_cons, List.length_nil] at hr
    by_cases hrm : r = m
    · exact ⟨join m s t, by simp, by rw [hrm]; rfl⟩
    · rw [hov] at hr0
      by_cases h1 : r = t.1
      · rw [if_pos h1] at hr0; omega
      · rw [if_neg h1] at hr0
        by_cases h2 : r = s.1
        · rw [if_pos h2] at hr0; omega
        · rw [if_neg h2] at hr0
          obtain ⟨u, hu, e⟩ := h.roots r (by omega) hr0
          rcases List.mem_cons.1 hu with rfl | hu
          · exact absurd e.symm h2
          · rcases List.mem_cons.1 hu with rfl | hu
            · exact absurd e.symm h1
            · exact ⟨u, by simp [hu], e⟩
  · rw [List.map_cons, List.nodup_cons]
    refine ⟨fun hm2 => ?_, hd.2.2⟩
    obtain ⟨u, hu, e⟩ := List.mem_map.1 hm2
    have := (h.ok u (by simp [hu])).root.1
    have e2 : u.1 = m := e
    omega
  · have hl := h.leaves
    simp only [List.flatMap_cons, List.map_append] at hl ⊢
    have hj : ((join m s t).2.map Prod.fst) = s.2.map Prod.fst ++ t.2.map Prod.fst := by simp [join, deeper, Function.comp_def]
    rw [hj, List.append_assoc]
    exact hl

/-- Heights: of each tree, and no other root is lighter than its heavier child. -/
def HighF (W : List Nat) (F : List Tr) : Prop := ∀ t ∈ F, ∃ h g, High W t h g ∧ ∀ u ∈ F, u.1 ≠ t.1 → g ≤ W.getD u.1 0
theorem HighF.perm {W : List Nat} {F F' : List Tr} (h : HighF W F) (hp : F.Perm F') : HighF W F' := fun t ht => by
  obtain ⟨a, g, h1, h2⟩ := h t (hp.mem_iff.2 ht)
  exact ⟨a, g, h1, fun u hu => h2 u (hp.mem_iff.2 hu)⟩
theorem fib_pos : ∀ k, 1 ≤ fib (k + 1)
  | 0 => Nat.le_refl _
  | k + 1 => by have := fib_pos k; rw [fib]; omega
theorem high_join {W : List Nat} {s t : Tr} {m ha ga hb gb : Nat} (h1 : High W s ha ga) (h2 : High W t hb gb) (hm : W.length = m) (hga : ga ≤ W.getD t.1 0) (hgb : gb ≤ W.getD s.1 0) :
    High (W ++ [W.getD s.1 0 + W.getD t.1 0]) (join m s t) (max ha hb + 1) (max (W.getD s.1 0) (W.getD t.1 0)) := by
  have hl : (W ++ [W.getD s.1 0 + W.getD t.1 0]).getD (join m s t).1 0 = W.getD s.1 0 + W.getD t.1 0 := by
    show (W ++ [W.getD s.1 0 + W.getD t.1 0]).getD m 0 = _
    rw [← hm, getD_last]
  generalize hA : W.getD s.1 0 = A at *
  generalize hB : W.getD t.1 0 = B at *
  have a2 := h1.2.1
  have b2 := h2.2.1
  rw [hA] at a2
  rw [hB] at b2
  have a3 := h1.2.2
  have b3 := h2.2.2
  refine ⟨fun p hp => ?_, ?_, fun _ => ?_⟩
  · simp only [join, deeper, List.mem_map, List.mem_append] at hp
    obtain ⟨q, hq, rfl⟩ := hp
    rcases hq with hq | hq
    · have := h1.1 q hq; simp only; omega
    · have := h2.1 q hq; simp only; omega
  · rw [hl]
    rcases Nat.le_total hb ha with hle | hle
    · rw [Nat.max_eq_left hle]
      rcases Nat.eq_zero_or_pos ha with h0 | h0
      · have : hb = 0 := by omega
        subst h0 this
        simp only [fib] at a2 b2 ⊢; omega
      · have e : fib (ha + 1 + 2) = fib (ha + 2) + fib (ha + 1) := rfl
        have := a3 h0
        omega
    · rw [Nat.max_eq_right hle]
      rcases Nat.eq_zero_or_pos hb with h0 | h0
      · have : ha = 0 := by omega
        subst h0 this
        simp only [fib] at a2 b2 ⊢; omega
      · have e : fib (hb + 1 + 2) = fib (hb + 2) + fib (hb + 1) := rfl
        have := b3 h0
        omega
  · rcases Nat.le_total hb ha with hle | hle
    · rw [Nat.max_eq_left hle, show ha + 1 + 1 = ha + 2 by omega]; omega
    · rw [Nat.max_eq_right hle, show hb + 1 + 1 = hb + 2 by omega]; omega
theorem High.turn {W : List Nat} {t : Tr} {h g x : Nat} (hh : High W t h g) (ht : t.1 < W.length) : High (W ++ [x]) t h g := by
  refine ⟨hh.1, ?_, hh.2.2⟩
  rw [getD_snoc _ _ _ ht]; exact hh.2.1
theorem HighF.step {n : Nat} {w W over : List Nat} {s t : Tr} {R : List Tr} (hF : Forest n w W over (s :: t :: R)) (h : HighF W (s :: t :: R)) (m : Nat) (hm : W.length = m)
    (hs : ∀ u ∈ R, W.getD s.1 0 ≤ W.getD u.1 0) (ht : ∀ u ∈ R, W.getD t.1 0 ≤ W.getD u.1 0) : HighF (W ++ [W.getD s.1 0 + W.getD t.1 0]) (join m s t :: R) := by
  have hd := hF.distinct
  simp only [List.map_cons, List.nodup_cons, List.mem_cons, List.mem_map, not_or, not_exists, not_and] at hd
  have hl : (W ++ [W.getD s.1 0 + W.getD t.1 0]).getD m 0 = W.getD s.1 0 + W.getD t.1 0 := by rw [← hm, getD_last]
  have hlt : ∀ u ∈ R, u.1 < W.length := fun u hu => (hF.ok u (by simp [hu])).root.1
  intro u hu
  rcases List.mem_cons.1 hu with rfl | hu
  · obtain ⟨ha, ga, a1, a2⟩ := h s (by simp)
    obtain ⟨hb, gb, b1, b2⟩ := h t (by simp)
    refine ⟨_, _, high_join a1 b1 hm (a2 t (by simp) (fun e => hd.1.1 e.symm)) (b2 s (by simp) hd.1.1), fun v hv hne => ?_⟩
    rcases List.mem_cons.1 hv with rfl | hv
    · exact absurd rfl hne
    · rw [getD_snoc _ _ _ (hlt v hv)]
      exact Nat.max_le.2 ⟨hs v hv, ht v hv⟩
  · obtain ⟨a, g, h1, h2⟩ := h u (by simp [hu])
    refine ⟨a, g, h1.turn (hlt u hu), fun v hv hne => ?_⟩
    rcases List.mem_cons.1 hv with rfl | hv
    · show g ≤ (W ++ [W.getD s.1 0 + W.getD t.1 0]).getD m 0
      rw [hl]
      have := h2 s (by simp) (fun e => hd.1.2 u hu e.symm)
      omega
    · rw [getD_snoc _ _ _ (hlt v hv)]
      exact h2 v (by simp [hv]) hne

/-- The cost of all the leaves. -/
def cTot (w : List Nat) (F : List Tr) : Nat := (F.map fun t => cSum w t.2).sum
theorem cTot_perm {w : List Nat} {F F' : List Tr} (hp : F.Perm F') : cTot w F = cTot w F' := (hp.map _).sum_nat
theorem cTot_step {w W over : List Nat} {s t : Tr} {R : List Tr} {m : Nat} (hs : TrOk w W over s) (ht : TrOk w W over t) : cTot w (join m s t :: R) = cTot w (s :: t :: R) + (W.getD s.1 0 + W.getD t.1 0) := by
  simp only [cTot, List.map_cons, List.sum_cons, join]
  rw [cSum_deeper, cSum_append, wSum_append, hs.weight, ht.weight]; omega

/-- One joining. -/
def hstep (s : List Nat × List Nat) : List Nat × List Nat :=
  let a := (leastI s.1 s.2 s.1.length).getD 0
  let o1 := s.2.set a s.1.length
  let b := (leastI s.1 o1 s.1.length).getD 0
  (s.1 ++ [s.1.getD a 0 + s.1.getD b 0], o1.set b s.1.length ++ [0])
theorem take_tree {F : List Tr} {t : Tr} (h : t ∈ F) : ∃ R, F.Perm (t :: R) := ⟨F.erase t, List.perm_cons_erase h⟩
/-- The two lightest roots' trees, and what a joining leaves. -/
theorem hstep_forest {n : Nat} {w W over : List Nat} {F : List Tr} (h : Forest n w W over F) (h2 : 2 ≤ F.length) (hW : W.length ≠ 0) :
    ∃ s t R, F.Perm (s :: t :: R) ∧ leastI W over W.length = some s.1 ∧ leastI W (over.set s.1 W.length) W.length = some t.1 ∧ (∀ u ∈ R, W.getD s.1 0 ≤ W.getD u.1 0) ∧ (∀ u ∈ R, W.getD t.1 0 ≤ W.getD u.1 0) ∧ W.getD s.1 0 ≤ W.getD t.1 0 ∧
      hstep (W, over) = (W ++ [W.getD s.1 0 + W.getD t.1 0], (over.set s.1 W.length).set t.1 W.length ++ [0]) := by
  obtain ⟨t0, ht0⟩ : ∃ t, t ∈ F := by
    cases F with
    | nil => simp at h2
    | cons t _ => exact ⟨t, by simp⟩
  have hr0 := (h.ok t0 ht0).root
  rcases leastI_spec W over W.length with ⟨-, hno⟩ | ⟨a, hla, hisa⟩
  · exact absurd hr0.2 (hno t0.1 hr0.1)
  obtain ⟨s, hs, rfl⟩ := h.roots a hisa.1 hisa.2.1
  obtain ⟨F1, hp1⟩ := take_tree hs
  have hl1 := hp1.length_eq
  have hF1 := h.perm hp1
  have hd1 := hF1.distinct
  simp only [List.map_cons, List.nodup_cons, List.mem_map, not_exists, not_and] at hd1
  obtain ⟨t1, ht1⟩ : ∃ t, t ∈ F1 := by
    cases F1 with
    | nil => simp at hl1; omega
    | cons t _ => exact ⟨t, by simp⟩
  have hr1 := (hF1.ok t1 (by simp [ht1])).root
  have hsr := (hF1.ok s (by simp)).root
  have hov : ∀ j, (over.set s.1 W.length).getD j 0 = if j = s.1 then W.length else over.getD j 0 := by
    intro j
    rw [getD_set]
    by_cases hj : j = s.1
    · rw [if_pos ⟨hj, by rw [h.len]; exact hsr.1⟩, if_pos hj]
    · rw [if_neg (fun h => hj h.1), if_neg hj]
  rcases leastI_spec W (over.set s.1 W.length) W.length with ⟨-, hno⟩ | ⟨b, hlb, hisb⟩
  · exact absurd (by rw [hov, if_neg (hd1.1 t1 ht1)]; exact hr1.2) (hno t1.1 hr1.1)
  have hbs : b ≠ s.1 := by
    rintro rfl
    have := hisb.2.1
    rw [hov, if_pos rfl] at this
    exact hW this
  have hb0 : over.getD b 0 = 0 := by have := hisb.2.1; rwa [hov, if_neg hbs] at this
  obtain ⟨t, ht, rfl⟩ := hF1.roots b hisb.1 hb0
  have htF : t ∈ F1 := by
    rcases List.mem_cons.1 ht with rfl | h3
    · exact absurd rfl hbs
    · exact h3
  obtain ⟨R, hp2⟩ := take_tree htF
  have hp : F.Perm (s :: t :: R) := hp1.trans (hp2.cons s)
  have hF2 := h.perm hp
  have hd2 := hF2.distinct
  simp only [List.map_cons, List.nodup_cons, List.mem_cons, List.mem_map, not_or, not_exists, not_and] at hd2
  have hsle : ∀ j, j < W.length → over.getD j 0 = 0 → W.getD s.1 0 ≤ W.getD j 0 := fun j h3 h4 => by have := hisa.2.2 j h3 h4; omega
  refine ⟨s, t, R, hp, hla, hlb, fun u hu => ?_, fun u hu => ?_, ?_, ?_⟩
  · have hu0 := (hF2.ok u (by simp [hu])).root
    exact hsle _ hu0.1 hu0.2
  · have hu0 := (hF2.ok u (by simp [hu])).root
    have := hisb.2.2 u.1 hu0.1 (by rw [hov, if_neg (hd2.1.2 u hu)]; exact hu0.2)
    omega
  · exact hsle _ hisb.1 hb0
  · unfold hstep
    simp only [hla, Option.getD_some, hlb]
end K
end Go.Proofs.Ytdaenajhgbagdaa
namespace Go.Proofs.Ytdaenajhgbagdaa
namespace K
set_option linter.unusedVariables false
set_option linter.unusedSimpArgs false

/-- Weights with lengths: the room that they take, of 2^20; their cost; how many have length M. -/
def kx (xs : List (Nat × Nat)) : Nat := (xs.map fun p => 2 ^ (20 - p.2)).sum
def cx (xs : List (Nat × Nat)) : Nat := (xs.map fun p => p.1 * p.2).sum
def nx (M : Nat) (xs : List (Nat × Nat)) : Nat := xs.countP fun p => p.2 == M
theorem kx_cons (p : Nat × Nat) (xs : List (Nat × Nat)) : kx (p :: xs) = 2 ^ (20 - p.2) + kx xs := by simp [kx]
theorem cx_cons (p : Nat × Nat) (xs : List (Nat × Nat)) : cx (p :: xs) = p.1 * p.2 + cx xs := by simp [cx]
theorem nx_cons (M : Nat) (p : Nat × Nat) (xs : List (Nat × Nat)) : nx M (p :: xs) = nx M xs + if p.2 = M then 1 else 0 := by
  unfold nx; rw [List.countP_cons]; simp
theorem kx_perm {xs ys : List (Nat × Nat)} (h : xs.Perm ys) : kx xs = kx ys := (h.map _).sum_nat
theorem cx_perm {xs ys : List (Nat × Nat)} (h : xs.Perm ys) : cx xs = cx ys := (h.map _).sum_nat
theorem nx_perm (M : Nat) {xs ys : List (Nat × Nat)} (h : xs.Perm ys) : nx M xs = nx M ys := h.countP_eq _
theorem nx_mem {M : Nat} {xs : List (Nat × Nat)} (h : 1 ≤ nx M xs) : ∃ z, (z, M) ∈ xs := by
  unfold nx at h
  obtain ⟨p, hp, hm⟩ := List.countP_pos_iff.1 (show 0 < _ from h)
  have : p.2 = M := by simpa using hm
  exact ⟨p.1, by rw [← this]; exact hp⟩
theorem take_item {xs : List (Nat × Nat)} {p : Nat × Nat} (h : p ∈ xs) : ∃ zs, xs.Perm (p :: zs) := ⟨xs.erase p, List.perm_cons_erase h⟩
/-- An item of a weight. -/
theorem take_weight {xs : List (Nat × Nat)} {a : Nat} {ws : List Nat} (h : (xs.map Prod.fst).Perm (a :: ws)) : ∃ la zs, xs.Perm ((a, la) :: zs) ∧ (zs.map Prod.fst).Perm ws := by
  have hm : a ∈ xs.map Prod.fst := h.mem_iff.2 (by simp)
  obtain ⟨p, hp, rfl⟩ := List.mem_map.1 hm
  obtain ⟨zs, hz⟩ := take_item hp
  refine ⟨p.2, zs, hz, ?_⟩
  have h2 := (hz.map Prod.fst).symm.trans h
  simp only [List.map_cons] at h2
  exact h2.cons_inv
theorem swap_cost (a z la M : Nat) (h1 : a ≤ z) (h2 : la ≤ M) : a * M + z * la ≤ a * la + z * M := by
  obtain ⟨e, rfl⟩ : ∃ e, M = la + e := ⟨M - la, by omega⟩
  obtain ⟨f, rfl⟩ : ∃ f, z = a + f := ⟨z - a, by omega⟩
  rw [Nat.mul_add, Nat.add_mul, Nat.add_mul a f (la + e), Nat.mul_add, Nat.mul_add]
  omega
/-- A light one takes the greatest length of a heavier one. -/
theorem swap_item {a la M : Nat} {zs : List (Nat × Nat)} (hla : la ≤ M) (hne : la ≠ M) (hn : 1 ≤ nx M zs) (ha : ∀ p ∈ zs, a ≤ p.1) (hM : ∀ p ∈ zs, p.2 ≤ M) :
    ∃ zs', (zs'.map Prod.fst).Perm (zs.map Prod.fst) ∧ kx ((a, M) :: zs') = kx ((a, la) :: zs) ∧ cx ((a, M) :: zs') ≤ cx ((a, la) :: zs) ∧ (∀ p ∈ zs', p.2 ≤ M) ∧ nx M zs' + 1 = nx M zs := by
  obtain ⟨z, hz⟩ := nx_mem hn
  obtain ⟨rs, hr⟩ := take_item hz
  refine ⟨(z, la) :: rs, ?_, ?_, ?_, fun p hp => ?_, ?_⟩
  · exact (hr.map Prod.fst).symm
  · rw [kx_cons, kx_cons, kx_cons, kx_perm hr, kx_cons]
    simp only; omega
  · rw [cx_cons, cx_cons, cx_cons, cx_perm hr, cx_cons]
    have := swap_cost a z la M (ha _ hz) hla
    simp only; omega
  · rcases List.mem_cons.1 hp with rfl | hp
    · exact hla
    · exact hM p (hr.mem_iff.2 (by simp [hp]))
  · rw [nx_perm M hr, nx_cons, nx_cons]
    simp only [if_neg hne]
    simp
theorem dvd_kx {M : Nat} : ∀ zs : List (Nat × Nat), (∀ p ∈ zs, p.2 + 1 ≤ M) → M ≤ 20 → ∃ q, kx zs = 2 ^ (21 - M) * q
  | [], _, _ => ⟨0, rfl⟩
  | p :: zs, h, hM => by
    obtain ⟨q, hq⟩ := dvd_kx zs (fun r hr => h r (by simp [hr])) hM
    have hp := h p (by simp)
    refine ⟨2 ^ (20 - p.2 - (21 - M)) + q, ?_⟩
    rw [kx_cons, hq, Nat.mul_add, ← Nat.pow_add, show 21 - M + (20 - p.2 - (21 - M)) = 20 - p.2 by omega]
theorem max_item : ∀ xs : List (Nat × Nat), xs ≠ [] → ∃ p ∈ xs, ∀ q ∈ xs, q.2 ≤ p.2
  | [], h => absurd rfl h
  | [p], _ => ⟨p, by simp, fun q hq => by simp at hq; rw [hq]; exact Nat.le_refl _⟩
  | p :: r :: xs, _ => by
    obtain ⟨m, hm, hle⟩ := max_item (r :: xs) (by simp)
    by_cases h : p.2 ≤ m.2
    · exact ⟨m, by simp only [List.mem_cons] at hm ⊢; exact .inr hm, fun q hq => by
        rcases List.mem_cons.1 hq with rfl | hq
        · exact h
        · exact hle q hq⟩
    · exact ⟨p, by simp, fun q hq => by
        rcases List.mem_cons.1 hq with rfl | hq
        · exact Nat.le_refl _
        · have := hle q hq; omega⟩

theorem exch : ∀ K (xs : List (Nat × Nat)) (a b : Nat) (ws : List Nat), (xs.map Prod.snd).sum ≤ K → (∀ p ∈ xs, p.2 ≤ 20) → kx xs ≤ 2 ^ 20 → (xs.map Prod.fst).Perm (a :: b :: ws) → a ≤ b → (∀ x ∈ ws, b ≤ x) →
    ∃ ys, (ys.map Prod.fst).Perm ((a + b) :: ws) ∧ (∀ p ∈ ys, p.2 ≤ 20) ∧ kx ys ≤ 2 ^ 20 ∧ cx ys + (a + b) ≤ cx xs := by
  intro K
  induction K using Nat.strongRecOn with
  | ind K ih =>
    intro xs a b ws hK h20 hk hp hab hws
    have hlen : xs.length = ws.length + 2 := by have := hp.length_eq; simpa using this
    obtain ⟨pm, hpm, hmax⟩ := max_item xs (by intro h; rw [h] at hlen; simp at hlen)
    obtain ⟨p, M⟩ := pm
    obtain ⟨x1, hx1⟩ := take_item hpm
    have hM20 : M ≤ 20 := h20 _ hpm
    have hmax' : ∀ q ∈ xs, q.2 ≤ M := hmax
    have hkx := kx_perm hx1
    rw [kx_cons] at hkx
    simp only at hkx
    have hx1l : x1.length = ws.length + 1 := by have := hx1.length_eq; simp at this; omega
    have hM1 : 1 ≤ M := by
      rcases Nat.eq_zero_or_pos M with h0 | h0
      · subst h0
        cases x1 with
        | nil => simp at hx1l
        | cons q r =>
          rw [kx_cons] at hkx
          have hq := hmax' q (hx1.mem_iff.2 (by simp))
          rw [show q.2 = 0 by omega] at hkx
          have e : 2 ^ (20 - 0) = 2 ^ 20 := rfl
          have : 0 < 2 ^ 20 := by decide
          omega
      · exact h0
    by_cases hmore : 1 ≤ nx M x1
    · -- two or more have the greatest length
      have hnM : 2 ≤ nx M xs := by rw [nx_perm M hx1, nx_cons]; simp only [if_true]; omega
      obtain ⟨la, zs, hz, hzw⟩ := take_weight hp
      have hza : ∀ q ∈ zs, a ≤ q.1 := fun q hq => by
        have := hzw.mem_iff.1 (List.mem_map.2 ⟨q, hq, rfl⟩)
        rcases List.mem_cons.1 this with h | h
        · omega
        · have := hws _ h; omega
      have hzM : ∀ q ∈ zs, q.2 ≤ M := fun q hq => hmax' q (hz.mem_iff.2 (by simp [hq]))
      have hlaM : la ≤ M := hmax' (a, la) (hz.mem_iff.2 (by simp))
      have hkz := kx_perm hz
      have hcz := cx_perm hz
      have hnz := nx_perm M hz
      rw [nx_cons] at hnz
      simp only at hnz
      -- a takes the greatest length
      obtain ⟨z1, q1, q2, q3, q4, q5⟩ : ∃ z1, (z1.map Prod.fst).Perm (zs.map Prod.fst) ∧ kx ((a, M) :: z1) = kx ((a, la) :: zs) ∧ cx ((a, M) :: z1) ≤ cx ((a, la) :: zs) ∧ (∀ p ∈ z1, p.2 ≤ M) ∧ 1 ≤ nx M z1 := by
        by_cases hl : la = M
        · subst hl
          rw [if_pos rfl] at hnz
          exact ⟨zs, List.Perm.refl _, rfl, Nat.le_refl _, hzM, by omega⟩
        · rw [if_neg hl] at hnz
          obtain ⟨z1, e1, e2, e3, e4, e5⟩ := swap_item hlaM hl (by omega) hza hzM
          exact ⟨z1, e1, e2, e3, e4, by omega⟩
      obtain ⟨lb, y1, hy, hyw⟩ := take_weight (q1.trans hzw)
      have hyb : ∀ q ∈ y1, b ≤ q.1 := fun q hq => hws _ (hyw.mem_iff.1 (List.mem_map.2 ⟨q, hq, rfl⟩))
      have hyM : ∀ q ∈ y1, q.2 ≤ M := fun q hq => q4 q (hy.mem_iff.2 (by simp [hq]))
      have hlbM : lb ≤ M := q4 (b, lb) (hy.mem_iff.2 (by simp))
      have hky := kx_perm hy
      have hcy := cx_perm hy
      have hny := nx_perm M hy
      rw [nx_cons] at hny
      simp only at hny
      obtain ⟨z2, r1, r2, r3, r4⟩ : ∃ z2, (z2.map Prod.fst).Perm (y1.map Prod.fst) ∧ kx ((b, M) :: z2) = kx ((b, lb) :: y1) ∧ cx ((b, M) :: z2) ≤ cx ((b, lb) :: y1) ∧ (∀ p ∈ z2, p.2 ≤ M) := by
        by_cases hl : lb = M
        · subst hl
          exact ⟨y1, List.Perm.refl _, rfl, Nat.le_refl _, hyM⟩
        · rw [if_neg hl] at hny
          obtain ⟨z2, e1, e2, e3, e4, e5⟩ := swap_item hlbM hl (by omega) hyb hyM
          exact ⟨z2, e1, e2, e3, e4⟩
      rw [kx_cons] at q2 r2
      rw [cx_cons] at q3 r3
      simp only at q2 q3 r2 r3
      obtain ⟨M', rfl⟩ : ∃ M', M = M' + 1 := ⟨M - 1, by omega⟩
      refine ⟨(a + b, M') :: z2, ?_, fun q hq => ?_, ?_, ?_⟩
      · rw [List.map_cons]; exact (r1.trans hyw).cons _
      · rcases List.mem_cons.1 hq with rfl | hq
        · simp only; omega
        · have := r4 q hq; omega
      · rw [kx_cons]
        have e : 2 ^ (20 - M') = 2 ^ (20 - (M' + 1)) + 2 ^ (20 - (M' + 1)) := by
          rw [show 20 - M' = 20 - (M' + 1) + 1 by omega, Nat.pow_succ]; omega
        simp only
        omega
      · rw [cx_cons]
        have e1 : a * (M' + 1) = a * M' + a := Nat.mul_succ _ _
        have e2 : b * (M' + 1) = b * M' + b := Nat.mul_succ _ _
        have e3 : (a + b) * M' = a * M' + b * M' := Nat.add_mul _ _ _
        simp only
        omega
    · -- one alone has it: it may be shorter
      have hx1M : ∀ q ∈ x1, q.2 + 1 ≤ M := fun q hq => by
        have h1 := hmax' q (hx1.mem_iff.2 (by simp [hq]))
        rcases Nat.lt_or_ge q.2 M with h2 | h2
        · exact h2
        · exfalso
          refine hmore ?_
          unfold nx
          exact List.countP_pos_iff.2 ⟨q, hq, by simp; omega⟩
      obtain ⟨q, hq⟩ := dvd_kx x1 hx1M hM20
      obtain ⟨M', rfl⟩ : ∃ M', M = M' + 1 := ⟨M - 1, by omega⟩
      have e1 : 2 ^ (21 - (M' + 1)) = 2 ^ (20 - (M' + 1)) + 2 ^ (20 - (M' + 1)) := by
        rw [show 21 - (M' + 1) = 20 - (M' + 1) + 1 by omega, Nat.pow_succ]; omega
      have e2 : (2 : Nat) ^ 20 = 2 ^ (21 - (M' + 1)) * 2 ^ M' := by rw [← Nat.pow_add]; congr 1; omega
      have hpos : 0 < 2 ^ (20 - (M' + 1)) := Nat.two_pow_pos _
      have hlt : q < 2 ^ M' := by
        rcases Nat.lt_or_ge q (2 ^ M') with h | h
        · exact h
        · have := Nat.mul_le_mul_left (2 ^ (21 - (M' + 1))) h
          omega
      have hle := Nat.mul_le_mul_left (2 ^ (21 - (M' + 1))) (show q + 1 ≤ 2 ^ M' from hlt)
      rw [Nat.mul_add, Nat.mul_one] at hle
      have e3 : 2 ^ (20 - M') = 2 ^ (21 - (M' + 1)) := by rw [show 20 - M' = 21 - (M' + 1) by omega]
      have hsum := (hx1.map Prod.snd).sum_nat
      simp only [List.map_cons, List.sum_cons] at hsum
      obtain ⟨ys, y1, y2, y3, y4⟩ := ih (K - 1) (by omega) ((p, M') :: x1) a b ws (by simp only [List.map_cons, List.sum_cons]; omega) (fun r hr => by
        rcases List.mem_cons.1 hr with rfl | hr
        · simp only; omega
        · exact h20 r (hx1.mem_iff.2 (by simp [hr]))) (by rw [kx_cons]; simp only; omega) (by
        have := (hx1.map Prod.fst).symm.trans hp
        simpa using this) hab hws
      refine ⟨ys, y1, y2, y3, ?_⟩
      have hc := cx_perm hx1
      rw [cx_cons] at hc y4
      have e4 : p * (M' + 1) = p * M' + p := Nat.mul_succ _ _
      simp only at hc y4
      omega
end K
end Go.Proofs.Ytdaenajhgbagdaa
namespace Go.Proofs.Ytdaenajhgbagdaa
namespace K
set_option linter.unusedVariables false
set_option linter.unusedSimpArgs false

/-- So many joinings. -/
def hrun (w : List Nat) : Nat → List Nat × List Nat
  | 0 => (w, List.replicate w.length 0)
  | k + 1 => hstep (hrun w k)
theorem hstep_len (s : List Nat × List Nat) : (hstep s).1.length = s.1.length + 1 := by simp [hstep]
theorem hrun_len (w : List Nat) : ∀ k, (hrun w k).1.length = w.length + k
  | 0 => rfl
  | k + 1 => by rw [hrun, hstep_len, hrun_len w k]; omega
/-- What any lengths cost at least, tree by tree. -/
def BestF (w W : List Nat) (F : List Tr) (C : Nat) : Prop := ∃ xs : List (Nat × Nat), (xs.map Prod.fst).Perm (F.map fun t => W.getD t.1 0) ∧ (∀ p ∈ xs, p.2 ≤ 20) ∧ kx xs ≤ 2 ^ 20 ∧ cx xs + cTot w F ≤ C
def start (n : Nat) : List Tr := (List.range n).map fun i => (i, [(i, 0)])
theorem rep_zero (n j : Nat) : (List.replicate n 0).getD j 0 = 0 := by
  rw [List.getD, List.getElem?_replicate]; split <;> rfl
theorem start_forest (w : List Nat) : Forest w.length w w (List.replicate w.length 0) (start w.length) := by
  refine ⟨by simp, Nat.le_refl _, fun t ht => ?_, fun r hr _ => ?_, ?_, ?_⟩
  · simp only [start, List.mem_map, List.mem_range] at ht
    obtain ⟨i, hi, rfl⟩ := ht
    refine ⟨⟨hi, rep_zero _ _⟩, fun p hp => ?_, ?_, fun L _ => ?_, by simp⟩
    · simp at hp; subst hp; exact .here i
    · simp [wSum]
    · simp [kSum]
  · exact ⟨(r, [(r, 0)]), by simp [start]; exact hr, rfl⟩
  · simp only [start, List.map_map, Function.comp_def]
    simp [List.nodup_range]
  · simp only [start, List.flatMap_map, List.map_flatMap]
    simp
theorem start_high (w : List Nat) (hw : ∀ x ∈ w, 1 ≤ x) : HighF w (start w.length) := by
  intro t ht
  simp only [start, List.mem_map, List.mem_range] at ht
  obtain ⟨i, hi, rfl⟩ := ht
  refine ⟨0, 0, ⟨fun p hp => by simp at hp; subst hp; exact Nat.le_refl _, ?_, fun h => by omega⟩, fun u _ _ => Nat.zero_le _⟩
  have : w.getD i 0 = w[i] := by rw [List.getD, List.getElem?_eq_getElem hi]; rfl
  simp only [this]
  exact hw _ (List.getElem_mem hi)
theorem start_cost (w : List Nat) (n : Nat) : cTot w (start n) = 0 := by
  have : ∀ l : List Nat, ((l.map fun i => ((i, [(i, 0)]) : Tr)).map fun t => cSum w t.2).sum = 0 := by
    intro l
    induction l with
    | nil => rfl
    | cons x l ih => simp only [List.map_cons, List.sum_cons, ih]; simp [cSum]
  exact this _
theorem start_best (w l : List Nat) (hl : l.length = w.length) (h20 : ∀ x ∈ l, x ≤ 20) (hk : (l.map fun x => 2 ^ (20 - x)).sum ≤ 2 ^ 20) : BestF w w (start w.length) ((w.zip l).map fun p => p.1 * p.2).sum := by
  refine ⟨w.zip l, ?_, fun p hp => h20 _ (List.of_mem_zip hp).2, ?_, ?_⟩
  · rw [List.map_fst_zip (by omega), start, List.map_map]
    have : (List.range w.length).map ((fun t : Tr => w.getD t.1 0) ∘ fun i => (i, [(i, 0)])) = w := by
      apply List.ext_getElem?
      intro i
      by_cases h : i < w.length
      · rw [List.getElem?_map, List.getElem?_range h, List.getElem?_eq_getElem h]
        simp [List.getD, List.getElem?_eq_getElem h]
      · rw [List.getElem?_eq_none (by simp; omega), List.getElem?_eq_none (by omega)]
    rw [this]
  · unfold kx
    have : (w.zip l).map (fun p => 2 ^ (20 - p.2)) = ((w.zip l).map Prod.snd).map fun x => 2 ^ (20 - x) := by rw [List.map_map]; rfl
    rw [this, List.map_snd_zip (by omega)]
    exact hk
  · rw [start_cost]; exact Nat.le_refl _
theorem BestF.perm {w W : List Nat} {F F' : List Tr} {C : Nat} (h : BestF w W F C) (hp : F.Perm F') : BestF w W F' C := by
  obtain ⟨xs, h1, h2, h3, h4⟩ := h
  exact ⟨xs, h1.trans (hp.map _), h2, h3, by rw [← cTot_perm hp]; exact h4⟩
theorem BestF.step {n : Nat} {w W over : List Nat} {s t : Tr} {R : List Tr} {C : Nat} (hF : Forest n w W over (s :: t :: R)) (h : BestF w W (s :: t :: R) C) (m : Nat) (hm : W.length = m)
    (ht : ∀ u ∈ R, W.getD t.1 0 ≤ W.getD u.1 0) (hst : W.getD s.1 0 ≤ W.getD t.1 0) : BestF w (W ++ [W.getD s.1 0 + W.getD t.1 0]) (join m s t :: R) C := by
  obtain ⟨xs, h1, h2, h3, h4⟩ := h
  have hlt : ∀ u ∈ R, u.1 < W.length := fun u hu => (hF.ok u (by simp [hu])).root.1
  simp only [List.map_cons] at h1
  obtain ⟨ys, y1, y2, y3, y4⟩ := exch _ xs _ _ _ (Nat.le_refl _) h2 h3 h1 hst (fun x hx => by
    obtain ⟨u, hu, rfl⟩ := List.mem_map.1 hx
    exact ht u hu)
  refine ⟨ys, ?_, y2, y3, ?_⟩
  · rw [List.map_cons]
    have e1 : (W ++ [W.getD s.1 0 + W.getD t.1 0]).getD (join m s t).1 0 = W.getD s.1 0 + W.getD t.1 0 := by
      show (W ++ [W.getD s.1 0 + W.getD t.1 0]).getD m 0 = _
      rw [← hm, getD_last]
    have e2 : R.map (fun u => (W ++ [W.getD s.1 0 + W.getD t.1 0]).getD u.1 0) = R.map fun u => W.getD u.1 0 := List.map_congr_left fun u hu => getD_snoc _ _ _ (hlt u hu)
    rw [e1, e2]; exact y1
  · rw [cTot_step (hF.ok s (by simp)) (hF.ok t (by simp))]; omega

/-- What stands behind k joinings. -/
theorem hrun_ok (w : List Nat) (hw : ∀ x ∈ w, 1 ≤ x) (h0 : 1 ≤ w.length) : ∀ k, k + 1 ≤ w.length → ∃ F, Forest w.length w (hrun w k).1 (hrun w k).2 F ∧ HighF (hrun w k).1 F ∧ F.length + k = w.length ∧
    ∀ C, BestF w w (start w.length) C → BestF w (hrun w k).1 F C
  | 0, _ => ⟨start w.length, start_forest w, start_high w hw, by simp [start], fun C h => h⟩
  | k + 1, hk => by
    obtain ⟨F, f1, f2, f3, f4⟩ := hrun_ok w hw h0 k (by omega)
    have hl := hrun_len w k
    obtain ⟨s, t, R, hp, -, -, hs, ht, hst, he⟩ := hstep_forest f1 (by omega) (by omega)
    have hpl := hp.length_eq
    have g1 := (f1.perm hp).step _ rfl (by omega)
    have g2 := HighF.step (f1.perm hp) (f2.perm hp) _ rfl hs ht
    refine ⟨join (hrun w k).1.length s t :: R, ?_, ?_, ?_, fun C hC => ?_⟩
    · rw [hrun, show hrun w k = ((hrun w k).1, (hrun w k).2) from rfl, he]; exact g1
    · rw [hrun, show hrun w k = ((hrun w k).1, (hrun w k).2) from rfl, he]; exact g2
    · simp only [List.length_cons] at hpl ⊢; omega
    · rw [hrun, show hrun w k = ((hrun w k).1, (hrun w k).2) from rfl, he]
      exact BestF.step (f1.perm hp) ((f4 C hC).perm hp) _ rfl ht hst

/-- The lengths that a run tells. -/
structure LensOf (w ls over : List Nat) : Prop where
  len : ls.length = w.length
  up : ∀ i, i < w.length → ∃ r, Up over i (ls.getD i 0) r ∧ over.getD r 0 = 0
  kraft : ∀ L, (∀ x ∈ ls, x ≤ L) → (ls.map fun x => 2 ^ (L - x)).sum = 2 ^ L
  low : ∃ h, (∀ x ∈ ls, x ≤ h) ∧ fib (h + 2) ≤ w.sum
  best : ∀ l : List Nat, l.length = w.length → (∀ x ∈ l, x ≤ 20) → (l.map fun x => 2 ^ (20 - x)).sum ≤ 2 ^ 20 → ((w.zip ls).map fun p => p.1 * p.2).sum ≤ ((w.zip l).map fun p => p.1 * p.2).sum
theorem range_zip (w ls : List Nat) (h : ls.length = w.length) : ((List.range w.length).map fun i => w.getD i 0 * ls.getD i 0) = (w.zip ls).map fun p => p.1 * p.2 := by
  apply List.ext_getElem?
  intro i
  by_cases hi : i < w.length
  · rw [List.getElem?_map, List.getElem?_range hi, List.getElem?_map, List.getElem?_eq_getElem (by simp; omega)]
    simp [List.getD, List.getElem?_eq_getElem hi, List.getElem?_eq_getElem (show i < ls.length by omega)]
  · rw [List.getElem?_eq_none (by simp; omega), List.getElem?_eq_none (by simp; omega)]
theorem range_getD (ls : List Nat) : (List.range ls.length).map (fun i => ls.getD i 0) = ls := by
  apply List.ext_getElem?
  intro i
  by_cases hi : i < ls.length
  · rw [List.getElem?_map, List.getElem?_range hi]
    simp [List.getD, List.getElem?_eq_getElem hi]
  · rw [List.getElem?_eq_none (by simp; omega), List.getElem?_eq_none (by omega)]
theorem hrun_lens (w : List Nat) (hw : ∀ x ∈ w, 1 ≤ x) (h0 : 1 ≤ w.length) : ∃ ls, LensOf w ls (hrun w (w.length - 1)).2 := by
  obtain ⟨F, f1, f2, f3, f4⟩ := hrun_ok w hw h0 (w.length - 1) (by omega)
  have hF1 : F.length = 1 := by omega
  obtain ⟨t, rfl⟩ : ∃ t, F = [t] := by
    match F, hF1 with
    | [t], _ => exact ⟨t, rfl⟩
  generalize hrun w (w.length - 1) = s at *
  obtain ⟨W, over⟩ := s
  simp only at f1 f2 f4 ⊢
  have ht := f1.ok t (by simp)
  have hlv : (t.2.map Prod.fst).Perm (List.range w.length) := by have := f1.leaves; simpa using this
  obtain ⟨ls, hls⟩ : ∃ ls : List Nat, ls = (List.range w.length).map fun i => ((t.2.find? fun p => p.1 == i).map Prod.snd).getD 0 := ⟨_, rfl⟩
  have hlen : ls.length = w.length := by rw [hls]; simp
  have hfind : ∀ i, i < w.length → ∃ d, (i, d) ∈ t.2 ∧ ls.getD i 0 = d := by
    intro i hi
    have hm : i ∈ t.2.map Prod.fst := hlv.mem_iff.2 (List.mem_range.2 hi)
    obtain ⟨p, hp, rfl⟩ := List.mem_map.1 hm
    cases hf : t.2.find? fun q => q.1 == p.1 with
    | none =>
      have := List.find?_eq_none.1 hf p hp
      simp at this
    | some q =>
      have hq := List.mem_of_find?_eq_some hf
      have hqe : q.1 = p.1 := by simpa using List.find?_some hf
      refine ⟨q.2, by rw [← hqe]; exact hq, ?_⟩
      rw [hls, List.getD, List.getElem?_map, List.getElem?_range hi]
      simp [hf]
  have hval : ∀ p ∈ t.2, p.2 = ls.getD p.1 0 := by
    intro p hp
    have hi : p.1 < w.length := List.mem_range.1 (hlv.mem_iff.1 (List.mem_map.2 ⟨p, hp, rfl⟩))
    obtain ⟨d, hd, he⟩ := hfind p.1 hi
    rw [he]
    exact ((ht.up p hp).one ht.root.2 (show Up over p.1 d t.1 from ht.up (p.1, d) hd) ht.root.2).1
  have hperm : t.2.Perm ((List.range w.length).map fun i => (i, ls.getD i 0)) := by
    have e : t.2 = (t.2.map Prod.fst).map fun i => (i, ls.getD i 0) := by
      rw [List.map_map]
      conv => lhs; rw [← List.map_id t.2]
      exact List.map_congr_left fun p hp => by simp only [id, Function.comp]; rw [← hval p hp]
    rw [e]; exact hlv.map _
  have hkr : ∀ (g : Nat × Nat → Nat), (t.2.map g).sum = ((List.range w.length).map fun i => g (i, ls.getD i 0)).sum := by
    intro g
    have := (hperm.map g).sum_nat
    rw [List.map_map] at this
    exact this
  refine ⟨ls, hlen, fun i hi => ?_, fun L hL => ?_, ?_, fun l h1 h2 h3 => ?_⟩
  · obtain ⟨d, hd, he⟩ := hfind i hi
    exact ⟨t.1, by rw [he]; exact ht.up _ hd, ht.root.2⟩
  · have hk := ht.kraft L (fun p hp => by
      have hi : p.1 < w.length := List.mem_range.1 (hlv.mem_iff.1 (List.mem_map.2 ⟨p, hp, rfl⟩))
      rw [hval p hp, List.getD, List.getElem?_eq_getElem (by omega)]
      exact hL _ (List.getElem_mem _))
    unfold kSum at hk
    rw [hkr] at hk
    have e := range_getD ls
    rw [hlen] at e
    rw [← hk]
    conv => lhs; rw [← e]
    rw [List.map_map]; rfl
  · obtain ⟨h, g, a, -⟩ := f2 t (by simp)
    refine ⟨h, fun x hx => ?_, ?_⟩
    · obtain ⟨i, hi, rfl⟩ := List.mem_iff_getElem.1 hx
      obtain ⟨d, hd, he⟩ := hfind i (by omega)
      have := a.1 _ hd
      rw [List.getD, List.getElem?_eq_getElem hi] at he
      simp only [Option.getD_some] at he
      rw [he]; exact this
    · have hw2 := a.2.1
      rw [ht.weight] at hw2
      unfold wSum at hw2
      rw [hkr] at hw2
      simp only at hw2
      rwa [range_getD] at hw2
  · obtain ⟨xs, -, -, -, hc⟩ := f4 _ (start_best w l h1 h2 h3)
    have : cTot w [t] = ((w.zip ls).map fun p => p.1 * p.2).sum := by
      simp only [cTot, List.map_cons, List.map_nil, List.sum_cons, List.sum_nil, Nat.add_zero]
      unfold cSum
      rw [hkr, ← range_zip w ls hlen]
    omega
end K
end Go.Proofs.Ytdaenajhgbagdaa
namespace Go.Proofs.Ytdaenajhgbagdaa
namespace K
set_option linter.unusedVariables false
set_option linter.unusedSimpArgs false

theorem wSum_perm {w : List Nat} {l l' : List (Nat × Nat)} (h : (l.map Prod.fst).Perm (l'.map Prod.fst)) : wSum w l = wSum w l' := by
  have e : ∀ l : List (Nat × Nat), wSum w l = ((l.map Prod.fst).map fun i => w.getD i 0).sum := fun l => by simp [wSum, Function.comp_def]
  rw [e, e]
  exact (h.map _).sum_nat
theorem forest_sum {w W over : List Nat} {F : List Tr} (h : Forest w.length w W over F) : wSum w (F.flatMap Prod.snd) = w.sum := by
  have e : wSum w (F.flatMap Prod.snd) = (((F.flatMap Prod.snd).map Prod.fst).map fun i => w.getD i 0).sum := by simp [wSum, Function.comp_def]
  rw [e, (h.leaves.map _).sum_nat, range_getD]
theorem hrun_over (w : List Nat) : ∀ k, (hrun w k).2.length = w.length + k
  | 0 => by simp [hrun]
  | k + 1 => by
    have := hrun_over w k
    rw [hrun]; simp only [hstep, List.length_append, List.length_set, List.length_cons, List.length_nil]; omega
theorem hrun_step (w : List Nat) (hw : ∀ x ∈ w, 1 ≤ x) (k : Nat) (hk : k + 2 ≤ w.length) : ∃ a b, a < w.length + k ∧ b < w.length + k ∧
    leastI (hrun w k).1 (hrun w k).2 (w.length + k) = some a ∧ leastI (hrun w k).1 ((hrun w k).2.set a (w.length + k)) (w.length + k) = some b ∧
    hrun w (k + 1) = ((hrun w k).1 ++ [(hrun w k).1.getD a 0 + (hrun w k).1.getD b 0], ((hrun w k).2.set a (w.length + k)).set b (w.length + k) ++ [0]) ∧
    (hrun w k).1.getD a 0 + (hrun w k).1.getD b 0 ≤ w.sum := by
  obtain ⟨F, f1, f2, f3, f4⟩ := hrun_ok w hw (by omega) k (by omega)
  have hl := hrun_len w k
  obtain ⟨s, t, R, hp, ha, hb, hs, ht, hst, he⟩ := hstep_forest f1 (by omega) (by omega)
  have es : hrun w (k + 1) = hstep ((hrun w k).1, (hrun w k).2) := rfl
  rw [hl] at ha hb he
  have hsum := forest_sum (f1.perm hp)
  have h1 := (f1.perm hp).ok s (by simp)
  have h2 := (f1.perm hp).ok t (by simp)
  refine ⟨s.1, t.1, by have := h1.root.1; omega, by have := h2.root.1; omega, ha, hb, by rw [es, he], ?_⟩
  rw [h1.weight, h2.weight, ← hsum]
  simp only [List.flatMap_cons, wSum_append]
  omega
end K
end Go.Proofs.Ytdaenajhgbagdaa
namespace Go.Proofs.Ytdaenajhgbagdaa
namespace K
set_option linter.unusedVariables false
set_option linter.unusedSimpArgs false

/-- The trees that are in no other one: weight and number. -/
def roots (W over : List Nat) (k : Nat) : List (Nat × Nat) := ((List.range k).filter fun i => over.getD i 0 == 0).map fun i => (W.getD i 0, i)
theorem roots_mem {W over : List Nat} {k : Nat} {t : Nat × Nat} : t ∈ roots W over k ↔ t.2 < k ∧ over.getD t.2 0 = 0 ∧ t.1 = W.getD t.2 0 := by
  unfold roots
  rw [List.mem_map]
  constructor
  · rintro ⟨i, hi, rfl⟩
    rw [List.mem_filter, List.mem_range] at hi
    exact ⟨hi.1, by simpa using hi.2, rfl⟩
  · rintro ⟨h1, h2, h3⟩
    exact ⟨t.2, by rw [List.mem_filter, List.mem_range]; exact ⟨h1, by simpa using h2⟩, by rw [← h3]⟩
theorem min_root {W over : List Nat} {k a : Nat} {t : Nat × Nat} (h : leastI W over k = some a) (ht : t ∈ roots W over k) (hm : ∀ u ∈ roots W over k, ¬ (u.1 < t.1 ∨ (u.1 = t.1 ∧ u.2 < t.2))) : t = (W.getD a 0, a) := by
  rcases leastI_spec W over k with ⟨h1, -⟩ | ⟨b, h1, h2⟩
  · rw [h] at h1; cases h1
  · rw [h] at h1; cases h1
    have hr := roots_mem.1 ht
    have ha : (W.getD a 0, a) ∈ roots W over k := roots_mem.2 ⟨h2.1, h2.2.1, rfl⟩
    have h3 := hm _ ha
    have h4 := h2.2.2 t.2 hr.1 hr.2.1
    have h5 := hr.2.2
    simp only at h3
    have e1 : t.2 = a := by omega
    rw [Prod.ext_iff]
    refine ⟨?_, e1⟩
    rw [h5, e1]
theorem least_mem {W over : List Nat} {k a : Nat} (h : leastI W over k = some a) : a < k ∧ over.getD a 0 = 0 := by
  rcases leastI_spec W over k with ⟨h1, -⟩ | ⟨b, h1, h2⟩
  · rw [h] at h1; cases h1
  · rw [h] at h1; cases h1
    exact ⟨h2.1, h2.2.1⟩
theorem take_root {W over : List Nat} {k a next : Nat} (ha : a < k) (h0 : over.getD a 0 = 0) (hl : a < over.length) (hn : next ≠ 0) :
    (roots W over k).Perm ((W.getD a 0, a) :: roots W (over.set a next) k) := by
  have hnd : ((List.range k).filter fun i => over.getD i 0 == 0).Nodup := List.nodup_range.filter _
  have hmem : a ∈ (List.range k).filter fun i => over.getD i 0 == 0 := by
    rw [List.mem_filter, List.mem_range]; exact ⟨ha, by simpa using h0⟩
  have hp := List.perm_cons_erase hmem
  have e : ((List.range k).filter fun i => over.getD i 0 == 0).erase a = (List.range k).filter fun i => (over.set a next).getD i 0 == 0 := by
    rw [hnd.erase_eq_filter, List.filter_filter]
    apply List.filter_congr
    intro i hi
    rw [getD_set]
    by_cases hia : i = a
    · subst hia
      simp [hl, hn]
    · simp [hia]
  rw [e] at hp
  exact hp.map _
theorem roots_snoc {W over : List Nat} {k x : Nat} (hW : W.length = k) (ho : over.length = k) : roots (W ++ [x]) (over ++ [0]) (k + 1) = roots W over k ++ [(x, k)] := by
  unfold roots
  rw [List.range_succ, List.filter_append, List.map_append]
  congr 1
  · have e : ((List.range k).filter fun i => (over ++ [0]).getD i 0 == 0) = (List.range k).filter fun i => over.getD i 0 == 0 := List.filter_congr fun i hi => by rw [getD_zero]
    rw [e]
    apply List.map_congr_left
    intro i hi
    rw [List.mem_filter, List.mem_range] at hi
    rw [getD_snoc _ _ _ (by omega)]
  · have h1 : (over ++ [0]).getD k 0 = 0 := by rw [← ho]; exact getD_last _ _
    simp only [List.filter_cons, List.filter_nil, h1]
    simp only [beq_self_eq_true, if_true, List.map_cons, List.map_nil]
    rw [show (W ++ [x]).getD k 0 = x by rw [← hW]; exact getD_last _ _]
theorem roots_start (w : List Nat) : roots w (List.replicate w.length 0) w.length = (List.range w.length).map fun i => (w.getD i 0, i) := by
  unfold roots
  rw [List.filter_eq_self.2]
  intro i _
  rw [rep_zero]; rfl

/-- What stands at a place taken out, the last one set there. -/
def out1 (l : List (Nat × Nat)) (i : Nat) : List (Nat × Nat) := (l.set i (l.getD (l.length - 1) (0, 0))).dropLast
theorem out1_perm (l : List (Nat × Nat)) (i : Nat) (t : Nat × Nat) (h : l[i]? = some t) : l.Perm (t :: out1 l i) := by
  obtain ⟨A, z, rfl⟩ : ∃ A z, l = A ++ [z] := by
    have : l ≠ [] := by rintro rfl; simp at h
    exact ⟨l.dropLast, l.getLast this, (List.dropLast_concat_getLast this).symm⟩
  have hz : (A ++ [z]).getD ((A ++ [z]).length - 1) (0, 0) = z := by simp [List.getD]
  unfold out1
  rw [hz]
  by_cases hi : i < A.length
  · rw [List.set_append_left _ _ hi, List.dropLast_concat]
    rw [List.getElem?_append_left hi] at h
    have e := List.getElem?_eq_some_iff.1 h
    obtain ⟨hl, hv⟩ := e
    have e1 : A = A.take i ++ t :: A.drop (i + 1) := by rw [← hv, ← List.drop_eq_getElem_cons hl, List.take_append_drop]
    have e2 : A.set i z = A.take i ++ z :: A.drop (i + 1) := by rw [List.set_eq_take_append_cons_drop, if_pos hl]
    rw [e2]
    conv => lhs; rw [e1]
    have p1 : (A.take i ++ t :: A.drop (i + 1)).Perm (t :: (A.take i ++ A.drop (i + 1))) := List.perm_middle
    have p2 : (A.take i ++ z :: A.drop (i + 1)).Perm (z :: (A.take i ++ A.drop (i + 1))) := List.perm_middle
    refine (p1.append_right [z]).trans ?_
    rw [List.cons_append]
    exact List.Perm.cons _ ((List.perm_append_singleton _ _).trans p2.symm)
  · have hl := (List.getElem?_eq_some_iff.1 h).1
    have : i = A.length := by simp at hl; omega
    subst this
    have ht : t = z := by simpa using h.symm
    subst ht
    have : (A ++ [t]).set A.length t = A ++ [t] := by
      apply List.ext_getElem?
      intro j
      rw [List.getElem?_set]
      split
      · rename_i hj
        subst hj
        simp
      · rfl
    rw [this, List.dropLast_concat]
    exact List.perm_append_singleton _ _
theorem out1_length (l : List (Nat × Nat)) (i : Nat) : (out1 l i).length = l.length - 1 := by simp [out1]
/-- What a run leaves in its list of tops lies below its end. -/
theorem hrun_tops (w : List Nat) (h0 : 1 ≤ w.length) : ∀ k, ∀ x ∈ (hrun w k).2, x < w.length + k
  | 0 => by
    intro x hx
    simp only [hrun] at hx
    have := List.eq_of_mem_replicate hx
    omega
  | k + 1 => by
    intro x hx
    have ih := hrun_tops w h0 k
    have hl := hrun_len w k
    rw [hrun] at hx
    simp only [hstep, List.mem_append, List.mem_singleton] at hx
    rcases hx with hx | rfl
    · rcases List.mem_or_eq_of_mem_set hx with h | h
      · rcases List.mem_or_eq_of_mem_set h with h | h
        · have := ih x h; omega
        · omega
      · omega
    · omega
theorem getD_lt_of {l : List Nat} {m : Nat} (h : ∀ x ∈ l, x < m) (hm : 0 < m) (j : Nat) : l.getD j 0 < m := by
  rw [List.getD]
  cases e : l[j]? with
  | none => exact hm
  | some x => exact h x (List.mem_of_getElem? e)
theorem Up.root {over : List Nat} {i d r : Nat} (u : Up over i d r) (hr : over.getD r 0 = 0) (hi : over.getD i 0 = 0) : d = 0 := (u.one hr (.here i) hi).1
theorem Up.next {over : List Nat} {i d r : Nat} (u : Up over i d r) (hr : over.getD r 0 = 0) (hi : over.getD i 0 ≠ 0) : ∃ e, d = e + 1 ∧ Up over (over.getD i 0) e r := by
  cases u with
  | here _ => exact absurd hr hi
  | step h h0 u => subst h; exact ⟨_, rfl, u⟩
/-- The lengths told so far, one of them up to e. -/
def outS (ls : List Nat) (n i e : Nat) : List Nat := ls.take i ++ e :: List.replicate (n - i - 1) 0
theorem outS_start (ls : List Nat) (n i : Nat) (h : i < n) : ls.take i ++ List.replicate (n - i) 0 = outS ls n i 0 := by
  unfold outS
  rw [show n - i = (n - i - 1) + 1 by omega, List.replicate_succ]
  simp
theorem outS_len (ls : List Nat) (n i e : Nat) (h : i < n) (hl : ls.length = n) : (outS ls n i e).length = n := by
  simp [outS]; omega
theorem outS_get (ls : List Nat) (n i e : Nat) (h : i < n) (hl : ls.length = n) : (outS ls n i e)[i]? = some e := by
  unfold outS
  have e1 : (ls.take i).length = i := by simp; omega
  rw [List.getElem?_append_right (by omega), e1, Nat.sub_self]; rfl
theorem outS_set (ls : List Nat) (n i e x : Nat) (h : i < n) (hl : ls.length = n) : (outS ls n i e).set i x = outS ls n i x := by
  unfold outS
  have e1 : (ls.take i).length = i := by simp; omega
  rw [List.set_append_right _ _ (by omega), e1, Nat.sub_self]; rfl
theorem outS_end (ls : List Nat) (n i : Nat) (h : i < n) (hl : ls.length = n) : outS ls n i (ls.getD i 0) = ls.take (i + 1) ++ List.replicate (n - (i + 1)) 0 := by
  unfold outS
  have : ls.getD i 0 = ls[i] := by rw [List.getD, List.getElem?_eq_getElem (by omega)]; rfl
  rw [this, List.take_succ_eq_append_getElem (by omega), List.append_assoc]
  rfl
/-- The two least taken out of the list, one after the other. -/
theorem two_out {W over : List Nat} {m a b i1 i2 : Nat} {tn : List (Nat × Nat)} {t1 t2 : Nat × Nat} (hp : tn.Perm (roots W over m)) (hl : over.length = m) (hm : m ≠ 0)
    (ha : leastI W over m = some a) (hb : leastI W (over.set a m) m = some b) (h1 : tn[i1]? = some t1) (h1m : ∀ u ∈ tn, ¬ (u.1 < t1.1 ∨ (u.1 = t1.1 ∧ u.2 < t1.2)))
    (h2 : (out1 tn i1)[i2]? = some t2) (h2m : ∀ u ∈ out1 tn i1, ¬ (u.1 < t2.1 ∨ (u.1 = t2.1 ∧ u.2 < t2.2))) :
    t1 = (W.getD a 0, a) ∧ t2 = (W.getD b 0, b) ∧ a ≠ b ∧ (out1 (out1 tn i1) i2).Perm (roots W ((over.set a m).set b m) m) := by
  obtain ⟨a1, a2⟩ := least_mem ha
  obtain ⟨b1, b2⟩ := least_mem hb
  have e1 := min_root ha (hp.mem_iff.1 (List.mem_of_getElem? h1)) fun u hu => h1m u (hp.mem_iff.2 hu)
  have p1 := take_root (W := W) a1 a2 (by omega) hm
  have q1 := out1_perm tn i1 t1 h1
  rw [e1] at q1
  have r1 : (out1 tn i1).Perm (roots W (over.set a m) m) := (q1.symm.trans (hp.trans p1)).cons_inv
  have e2 := min_root hb (r1.mem_iff.1 (List.mem_of_getElem? h2)) fun u hu => h2m u (r1.mem_iff.2 hu)
  have p2 := take_root (W := W) b1 b2 (by rw [List.length_set]; omega) hm
  have q2 := out1_perm (out1 tn i1) i2 t2 h2
  rw [e2] at q2
  refine ⟨e1, e2, fun h => ?_, (q2.symm.trans (r1.trans p2)).cons_inv⟩
  subst h
  rw [getD_set, if_pos ⟨rfl, by omega⟩] at b2
  exact hm b2
theorem le_sum_of {w : List Nat} {x : Nat} (h : x ∈ w) : x ≤ w.sum := by
  induction w with
  | nil => cases h
  | cons y w ih =>
    rw [List.sum_cons]
    rcases List.mem_cons.1 h with h | h
    · omega
    · have := ih h; omega
theorem hrun_bound (w : List Nat) (hw : ∀ x ∈ w, 1 ≤ x) : ∀ k, k + 1 ≤ w.length → ∀ x ∈ (hrun w k).1, x ≤ w.sum
  | 0, _, x, hx => le_sum_of hx
  | k + 1, hk, x, hx => by
    obtain ⟨a, b, -, -, -, -, he, hs⟩ := hrun_step w hw k (by omega)
    rw [he] at hx
    rcases List.mem_append.1 hx with h | h
    · exact hrun_bound w hw k (by omega) x h
    · rw [List.mem_singleton] at h; omega
end K
end Go.Proofs.Ytdaenajhgbagdaa
namespace Go.Proofs.Ytdaenajhgbagdaa
namespace K
set_option linter.unusedVariables false
set_option linter.unusedSimpArgs false

def Told (w ls : List Nat) : Prop := LensOf w ls (hrun w (w.length - 1)).2
theorem told_one {w a b : List Nat} (h : Told w a) (h' : Told w b) : a = b := by
  have e1 := h.len
  have e2 := h'.len
  apply List.ext_getElem?
  intro i
  by_cases hi : i < w.length
  · obtain ⟨r, u, hr⟩ := h.up i hi
    obtain ⟨q, v, hq⟩ := h'.up i hi
    have e := (u.one hr v hq).1
    rw [List.getD, List.getElem?_eq_getElem (by omega), List.getD, List.getElem?_eq_getElem (by omega)] at e
    rw [List.getElem?_eq_getElem (by omega), List.getElem?_eq_getElem (by omega)]
    simpa using e
  · rw [List.getElem?_eq_none (by omega), List.getElem?_eq_none (by omega)]
def halve (w : List Nat) : List Nat := w.map fun x => x / 2 + 1
/-- Behind so many halvings the lengths of a try are none above most. -/
def MadeN (most : Nat) : Nat → List Nat → List Nat → Prop
  | 0, w, ls => Told w ls ∧ ∀ x ∈ ls, x ≤ most
  | n + 1, w, ls => ∃ l0, Told w l0 ∧ (∃ x ∈ l0, most < x) ∧ MadeN most n (halve w) ls
theorem halve_length (w : List Nat) : (halve w).length = w.length := by simp [halve]
theorem halve_take (w : List Nat) (i x : Nat) (h : w[i]? = some x) : (halve (w.take i) ++ w.drop i).set i (x / 2 + 1) = halve (w.take (i + 1)) ++ w.drop (i + 1) := by
  obtain ⟨hi, hv⟩ := List.getElem?_eq_some_iff.1 h
  have hl : (halve (w.take i)).length = i := by simp [halve]; omega
  rw [List.set_append_right _ _ (by omega), hl, Nat.sub_self, List.drop_eq_getElem_cons hi, List.set_cons_zero, List.take_succ_eq_append_getElem hi, hv]
  simp [halve]
theorem halve_at (w : List Nat) (i x : Nat) (h : w[i]? = some x) : (halve (w.take i) ++ w.drop i)[i]? = some x := by
  obtain ⟨hi, hv⟩ := List.getElem?_eq_some_iff.1 h
  have hl : (halve (w.take i)).length = i := by simp [halve]; omega
  rw [List.getElem?_append_right (by omega), hl, Nat.sub_self, List.getElem?_drop]
  simpa using h
theorem halve_le {w : List Nat} (h : ∀ x ∈ w, x ≤ 1073741824) : ∀ x ∈ halve w, x ≤ 1073741824 := by
  intro x hx
  obtain ⟨y, hy, rfl⟩ := List.mem_map.1 hx
  have := h y hy
  omega
theorem halve_pos (w : List Nat) : ∀ x ∈ halve w, 1 ≤ x := by
  intro x hx
  obtain ⟨y, -, rfl⟩ := List.mem_map.1 hx
  omega
theorem fib_mono : ∀ k, fib k ≤ fib (k + 1)
  | 0 => by decide
  | 1 => by decide
  | k + 2 => by
    show fib (k + 2) ≤ fib (k + 2) + fib (k + 1)
    omega
theorem fib_le {a b : Nat} (h : a ≤ b) : fib a ≤ fib b := by
  induction b with
  | zero => have : a = 0 := by omega
            subst this; exact Nat.le_refl _
  | succ b ih =>
    rcases Nat.lt_or_ge b a with h' | h'
    · have : a = b + 1 := by omega
      subst this; exact Nat.le_refl _
    · exact Nat.le_trans (ih h') (fib_mono b)
theorem fib_pow : ∀ k, 2 ^ k ≤ fib (2 * k + 1)
  | 0 => by decide
  | k + 1 => by
    have h := fib_pow k
    have h2 : fib (2 * k + 1) ≤ fib (2 * k + 2) := fib_mono (2 * k + 1)
    show 2 ^ (k + 1) ≤ fib (2 * k + 2) + fib (2 * k + 1)
    rw [Nat.pow_succ]; omega
theorem short_of {w ls : List Nat} (h : Told w ls) (hs : w.sum ≤ 1000000000000) (i : Nat) : ls.getD i 0 ≤ 78 := by
  obtain ⟨q, h1, h2⟩ := h.low
  rw [List.getD]
  cases e : ls[i]? with
  | none => simp
  | some x =>
    have := h1 x (List.mem_of_getElem? e)
    simp only [Option.getD_some]
    rcases Nat.lt_or_ge q 79 with hq | hq
    · omega
    · have h3 := fib_le (show 2 * 40 + 1 ≤ q + 2 by omega)
      have h4 := fib_pow 40
      have e : (2 : Nat) ^ 40 = 1099511627776 := by decide
      omega
theorem low_of {w ls : List Nat} (h : Told w ls) (hs : w.sum < 610) : ∀ x ∈ ls, x ≤ 12 := by
  obtain ⟨q, h1, h2⟩ := h.low
  intro x hx
  have := h1 x hx
  rcases Nat.lt_or_ge q 13 with hq | hq
  · omega
  · have := fib_le (show 15 ≤ q + 2 by omega)
    have e : fib 15 = 610 := by decide
    omega
theorem sum_le (w : List Nat) (b : Nat) (h : ∀ x ∈ w, x ≤ b) : w.sum ≤ w.length * b := by
  induction w with
  | nil => simp
  | cons x w ih =>
    have h1 := h x (by simp)
    have h2 := ih fun y hy => h y (by simp [hy])
    rw [List.sum_cons, List.length_cons, Nat.add_mul]; omega
theorem made_any (most : Nat) (hm : 12 ≤ most) : ∀ (j : Nat) (w : List Nat), (∀ x ∈ w, 1 ≤ x) → 1 ≤ w.length → w.length ≤ 258 → (∀ x ∈ w, x ≤ 2 ^ j + 1) → ∃ n ls, n ≤ j ∧ MadeN most n w ls
  | 0, w, h1, h2, h3, h4 => by
    obtain ⟨ls, hls⟩ := hrun_lens w h1 h2
    refine ⟨0, ls, Nat.le_refl _, hls, fun x hx => ?_⟩
    have := sum_le w 2 (fun x hx => by have := h4 x hx; omega)
    have := low_of hls (by omega) x hx
    omega
  | j + 1, w, h1, h2, h3, h4 => by
    obtain ⟨ls, hls⟩ := hrun_lens w h1 h2
    by_cases hall : ∀ x ∈ ls, x ≤ most
    · exact ⟨0, ls, by omega, hls, hall⟩
    · obtain ⟨n, l1, hn, hl1⟩ := made_any most hm j (halve w) (halve_pos w) (by rw [halve_length]; exact h2) (by rw [halve_length]; exact h3) (by
        intro x hx
        obtain ⟨y, hy, rfl⟩ := List.mem_map.1 hx
        have := h4 y hy
        rw [Nat.pow_succ] at this
        omega)
      refine ⟨n + 1, l1, by omega, ls, hls, ?_, hl1⟩
      simp only [Classical.not_forall] at hall
      obtain ⟨x, hx, hlt⟩ := hall
      exact ⟨x, hx, by omega⟩
/-- What is made leaves no room and is none above the most. -/
theorem madeN_ok {most : Nat} : ∀ {n : Nat} {w ls : List Nat}, MadeN most n w ls → ls.length = w.length ∧ (∀ x ∈ ls, x ≤ most) ∧ ∀ L, most ≤ L → (ls.map fun x => 2 ^ (L - x)).sum = 2 ^ L
  | 0, w, ls, h => ⟨h.1.len, h.2, fun L hL => h.1.kraft L fun x hx => Nat.le_trans (h.2 x hx) hL⟩
  | n + 1, w, ls, h => by
    obtain ⟨l0, -, -, h2⟩ := h
    obtain ⟨a, b, c⟩ := madeN_ok h2
    exact ⟨by rw [a, halve_length], b, c⟩
theorem made_pos {ls : List Nat} (h2 : 2 ≤ ls.length) (h : (ls.map fun x => 2 ^ (20 - x)).sum = 2 ^ 20) : ∀ x ∈ ls, 1 ≤ x := by
  intro x hx
  rcases Nat.eq_zero_or_pos x with h0 | h0
  · subst h0
    have hp := List.perm_cons_erase hx
    have hl := hp.length_eq
    have hs := (hp.map fun x => 2 ^ (20 - x)).sum_nat
    rw [List.map_cons, List.sum_cons, h] at hs
    simp only [List.length_cons] at hl
    cases he : ls.erase 0 with
    | nil => rw [he] at hl; simp at hl; omega
    | cons y r =>
      rw [he, List.map_cons, List.sum_cons] at hs
      have : 0 < 2 ^ (20 - y) := Nat.two_pow_pos _
      omega
  · exact h0
end K
end Go.Proofs.Ytdaenajhgbagdaa
namespace Go.Proofs.Ytdaenajhgbagdaa
namespace K
set_option linter.unusedVariables false
set_option linter.unusedSimpArgs false

/-- Symbol j stands in frontN of symbol i. -/
def before (ws : List Nat) (i j : Nat) : Bool := decide (ws.getD i 0 < ws.getD j 0 ∨ (ws.getD j 0 = ws.getD i 0 ∧ j < i))
/-- How many of the first m stand in frontN of i. -/
def frontTo (ws : List Nat) (i m : Nat) : Nat := (List.range m).countP (before ws i)
def frontN (ws : List Nat) (i : Nat) : Nat := frontTo ws i ws.length
theorem frontTo_succ (ws : List Nat) (i m : Nat) : frontTo ws i (m + 1) = frontTo ws i m + if before ws i m then 1 else 0 := by
  unfold frontTo
  rw [List.range_succ, List.countP_append, List.countP_singleton]
theorem frontTo_le (ws : List Nat) (i m : Nat) : frontTo ws i m ≤ m := by
  unfold frontTo
  have := List.countP_le_length (p := before ws i) (l := List.range m)
  simpa using this
/-- The length that a flat code gives to the p-th of n symbols. -/
def flatAt (n p : Nat) : Nat := Nat.log2 n + if 2 ^ (Nat.log2 n + 1) - n ≤ p then 1 else 0
def flatL (ws : List Nat) : List Nat := (List.range ws.length).map fun i => flatAt ws.length (frontN ws i)
theorem flatL_length (ws : List Nat) : (flatL ws).length = ws.length := by simp [flatL]
theorem flatL_get (ws : List Nat) (i : Nat) (h : i < ws.length) : (flatL ws).getD i 0 = flatAt ws.length (frontN ws i) := by
  simp [flatL, List.getD, List.getElem?_range h, h]
theorem log2_is {n k : Nat} (h0 : n ≠ 0) (h1 : 2 ^ k ≤ n) (h2 : n < 2 ^ (k + 1)) : Nat.log2 n = k := (Nat.log2_eq_iff h0).2 ⟨h1, h2⟩
theorem log2_has {n : Nat} (h0 : n ≠ 0) : 2 ^ Nat.log2 n ≤ n ∧ n < 2 ^ (Nat.log2 n + 1) := (Nat.log2_eq_iff h0).1 rfl
/-- What is sorted has each where its frontN says. -/
theorem front_at {ws L : List Nat} (hp : L.Perm (List.range ws.length)) (hs : L.Pairwise fun a b => before ws a b = false) (p i : Nat) (h : L[p]? = some i) : frontN ws i = p := by
  have hnd : L.Nodup := hp.nodup_iff.2 List.nodup_range
  obtain ⟨hl, hv⟩ := List.getElem?_eq_some_iff.1 h
  have e : L = L.take p ++ i :: L.drop (p + 1) := by rw [← hv, ← List.drop_eq_getElem_cons hl, List.take_append_drop]
  unfold frontN frontTo
  rw [← hp.countP_eq, e, List.countP_append, List.countP_cons]
  rw [e] at hs hnd
  rw [List.pairwise_append] at hs
  obtain ⟨-, h2, h3⟩ := hs
  rw [List.nodup_append] at hnd
  have hself : before ws i i = false := by unfold before; simp
  have hA : (L.take p).countP (before ws i) = (L.take p).length := by
    rw [List.countP_eq_length]
    intro a ha
    have h4 := h3 a ha i (by simp)
    have h5 : a ≠ i := hnd.2.2 a ha i (by simp)
    unfold before at h4 ⊢
    rw [decide_eq_false_iff_not] at h4
    rw [decide_eq_true_eq]
    omega
  have hB : (L.drop (p + 1)).countP (before ws i) = 0 := by
    rw [List.countP_eq_zero]
    intro b hb
    have h4 := (List.pairwise_cons.1 h2).1 b hb
    rw [h4]; simp
  rw [hA, hB, hself]
  simp
  omega
/-- There is a sorted list. -/
theorem front_perm (ws : List Nat) : ((List.range ws.length).map (frontN ws)).Perm (List.range ws.length) := by
  let le : Nat → Nat → Bool := fun a b => !before ws a b
  have hp : ((List.range ws.length).mergeSort le).Perm (List.range ws.length) := List.mergeSort_perm _ _
  have hs := List.pairwise_mergeSort (le := le) (by
    intro a b c h1 h2
    simp only [le, before, Bool.not_eq_true', decide_eq_false_iff_not] at h1 h2 ⊢
    omega) (by
    intro a b
    simp only [le, before, Bool.or_eq_true, Bool.not_eq_true', decide_eq_false_iff_not]
    omega) (List.range ws.length)
  have hs' : ((List.range ws.length).mergeSort le).Pairwise fun a b => before ws a b = false := by simpa [le] using hs
  generalize (List.range ws.length).mergeSort le = L at hp hs'
  have e : L.map (frontN ws) = List.range ws.length := by
    apply List.ext_getElem?
    intro p
    have hl := hp.length_eq
    rw [List.length_range] at hl
    by_cases h : p < L.length
    · rw [List.getElem?_map, List.getElem?_eq_getElem h, List.getElem?_range (by omega)]
      simp only [Option.map_some, Option.some.injEq]
      exact front_at hp hs' p _ (List.getElem?_eq_getElem h)
    · rw [List.getElem?_eq_none (by simp; omega), List.getElem?_eq_none (by simp; omega)]
  exact ((hp.symm.map (frontN ws)).trans (by rw [e]))
theorem sum_two (g : Nat → Nat) (a b : Nat) (m : Nat) : ∀ n, (∀ p, p < m → g p = a) → (∀ p, m ≤ p → g p = b) → ((List.range n).map g).sum = (min m n) * a + (n - m) * b
  | 0, _, _ => by simp
  | n + 1, h1, h2 => by
    rw [List.range_succ, List.map_append, List.sum_append_nat, sum_two g a b m n h1 h2]
    simp only [List.map_cons, List.map_nil, List.sum_cons, List.sum_nil, Nat.add_zero]
    rcases Nat.lt_or_ge n m with h | h
    · rw [h1 n h, show min m (n + 1) = min m n + 1 by omega, show n + 1 - m = 0 by omega, show n - m = 0 by omega, Nat.add_mul]; omega
    · rw [h2 n h, show min m (n + 1) = min m n by omega, show n + 1 - m = (n - m) + 1 by omega, Nat.add_mul]; omega
theorem flat_full (ws : List Nat) (h2 : 2 ≤ ws.length) (h3 : ws.length ≤ 258) : ((flatL ws).map fun x => 2 ^ (20 - x)).sum = 2 ^ 20 := by
  have hn := log2_has (n := ws.length) (by omega)
  have hk8 : Nat.log2 ws.length ≤ 8 := by
    rcases Nat.lt_or_ge (Nat.log2 ws.length) 9 with h | h
    · omega
    · have := Nat.pow_le_pow_right (n := 2) (by omega) h
      omega
  unfold flatL
  rw [List.map_map]
  have e : (List.range ws.length).map ((fun x => 2 ^ (20 - x)) ∘ fun i => flatAt ws.length (frontN ws i)) = ((List.range ws.length).map (frontN ws)).map fun p => 2 ^ (20 - flatAt ws.length p) := by
    rw [List.map_map]; rfl
  rw [e, ((front_perm ws).map _).sum_nat, sum_two (fun p => 2 ^ (20 - flatAt ws.length p)) (2 ^ (20 - Nat.log2 ws.length)) (2 ^ (19 - Nat.log2 ws.length)) (2 ^ (Nat.log2 ws.length + 1) - ws.length)]
  · generalize Nat.log2 ws.length = k at *
    have e1 : 2 ^ (20 - k) = 2 * 2 ^ (19 - k) := by rw [show 20 - k = (19 - k) + 1 by omega, Nat.pow_succ]; omega
    have e2 : 2 ^ (k + 1) * 2 ^ (19 - k) = 2 ^ 20 := by rw [← Nat.pow_add, show k + 1 + (19 - k) = 20 by omega]
    have e3 : 2 ^ (k + 1) = 2 * 2 ^ k := by rw [Nat.pow_succ]; omega
    rw [e1, ← e2]
    generalize 2 ^ (19 - k) = q at *
    generalize 2 ^ (k + 1) = r at *
    rw [show min (r - ws.length) ws.length = r - ws.length by omega, show (r - ws.length) * (2 * q) = (2 * (r - ws.length)) * q by rw [Nat.mul_comm 2 (r - ws.length), Nat.mul_assoc], ← Nat.add_mul]
    congr 1
    omega
  · intro p hp
    unfold flatAt
    rw [if_neg (by omega)]; rfl
  · intro p hp
    unfold flatAt
    rw [if_pos hp]
    congr 1
    omega
theorem flatL_mem {ws : List Nat} {x : Nat} (h : x ∈ flatL ws) : Nat.log2 ws.length ≤ x ∧ x ≤ Nat.log2 ws.length + 1 := by
  unfold flatL at h
  obtain ⟨i, -, rfl⟩ := List.mem_map.1 h
  unfold flatAt
  split <;> omega
/-- No heavier symbol is longer. -/
theorem front_mono {ws : List Nat} {a b : Nat} (h : ws.getD b 0 < ws.getD a 0) : frontN ws a ≤ frontN ws b := by
  unfold frontN frontTo
  apply List.countP_mono_left
  intro j _ hj
  unfold before at hj ⊢
  rw [decide_eq_true_eq] at hj ⊢
  omega
theorem flatAt_mono (n : Nat) {p q : Nat} (h : p ≤ q) : flatAt n p ≤ flatAt n q := by
  unfold flatAt
  split <;> split <;> omega
end K
end Go.Proofs.Ytdaenajhgbagdaa
