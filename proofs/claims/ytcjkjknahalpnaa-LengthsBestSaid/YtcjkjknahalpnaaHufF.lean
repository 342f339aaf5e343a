/-
  The roots of a run as a list of trees, plainly: the least one taken, one put behind; what a run leaves in its list of tops.
-/
import Derived.Test.YtcjkjknahalpnaaHufE
namespace Go.Proofs.Ytcjkjknahalpnaa
namespace K
set_option linter.unusedVariables false
set_option linter.unusedSimpArgs false

/-- The trees that are in no other one: weight and number. -/
def roots (W over : List Nat) (k : Nat) : List (Nat × Nat) := ((List.range k).filter fun i => over.getD i 0 == 0).map fun i => (W.getD i 0, i)
theorem roots_mem {W over : List Nat} {k : Nat} {t : Nat × Nat} : t ∈ roots W over k ↔ t.2 < k ∧ over.getD t.2 0 = 0 ∧ t.1 = W.getD t.2 0 := by
  unfold roots
  rw [List.mem_map]
  constructor
  · rintro ⟨i, hi, rfl⟩
    rw [List.mem_filter, List.mem_range] at hi
    exact ⟨hi.1, by simpa using hi.2, rfl⟩
  · rintro ⟨h1, h2, h3⟩
    exact ⟨t.2, by rw [List.mem_filter, List.mem_range]; exact ⟨h1, by simpa using h2⟩, by rw [← h3]⟩
theorem min_root {W over : List Nat} {k a : Nat} {t : Nat × Nat} (h : leastI W over k = some a) (ht : t ∈ roots W over k) (hm : ∀ u ∈ roots W over k, ¬ (u.1 < t.1 ∨ (u.1 = t.1 ∧ u.2 < t.2))) : t = (W.getD a 0, a) := by
  rcases leastI_spec W over k with ⟨h1, -⟩ | ⟨b, h1, h2⟩
  · rw [h] at h1; cases h1
  · rw [h] at h1; cases h1
    have hr := roots_mem.1 ht
    have ha : (W.getD a 0, a) ∈ roots W over k := roots_mem.2 ⟨h2.1, h2.2.1, rfl⟩
    have h3 := hm _ ha
    have h4 := h2.2.2 t.2 hr.1 hr.2.1
    have h5 := hr.2.2
    simp only at h3
    have e1 : t.2 = a := by omega
    rw [Prod.ext_iff]
    refine ⟨?_, e1⟩
    rw [h5, e1]
theorem least_mem {W over : List Nat} {k a : Nat} (h : leastI W over k = some a) : a < k ∧ over.getD a 0 = 0 := by
  rcases leastI_spec W over k with ⟨h1, -⟩ | ⟨b, h1, h2⟩
  · rw [h] at h1; cases h1
  · rw [h] at h1; cases h1
    exact ⟨h2.1, h2.2.1⟩
theorem take_root {W over : List Nat} {k a next : Nat} (ha : a < k) (h0 : over.getD a 0 = 0) (hl : a < over.length) (hn : next ≠ 0) :
    (roots W over k).Perm ((W.getD a 0, a) :: roots W (over.set a next) k) := by
  have hnd : ((List.range k).filter fun i => over.getD i 0 == 0).Nodup := List.nodup_range.filter _
  have hmem : a ∈ (List.range k).filter fun i => over.getD i 0 == 0 := by
    rw [List.mem_filter, List.mem_range]; exact ⟨ha, by simpa using h0⟩
  have hp := List.perm_cons_erase hmem
  have e : ((List.range k).filter fun i => over.getD i 0 == 0).erase a = (List.range k).filter fun i => (over.set a next).getD i 0 == 0 := by
    rw [hnd.erase_eq_filter, List.filter_filter]
    apply List.filter_congr
    intro i hi
    rw [getD_set]
    by_cases hia : i = a
    · subst hia
      simp [hl, hn]
    · simp [hia]
  rw [e] at hp
  exact hp.map _
theorem roots_snoc {W over : List Nat} {k x : Nat} (hW : W.length = k) (ho : over.length = k) : roots (W ++ [x]) (over ++ [0]) (k + 1) = roots W over k ++ [(x, k)] := by
  unfold roots
  rw [List.range_succ, List.filter_append, List.map_append]
  congr 1
  · have e : ((List.range k).filter fun i => (over ++ [0]).getD i 0 == 0) = (List.range k).filter fun i => over.getD i 0 == 0 := List.filter_congr fun i hi => by rw [getD_zero]
    rw [e]
    apply List.map_congr_left
    intro i hi
    rw [List.mem_filter, List.mem_range] at hi
    rw [getD_snoc _ _ _ (by omega)]
  · have h1 : (over ++ [0]).getD k 0 = 0 := by rw [← ho]; exact getD_last _ _
    simp only [List.filter_cons, List.filter_nil, h1]
    simp only [beq_self_eq_true, if_true, List.map_cons, List.map_nil]
    rw [show (W ++ [x]).getD k 0 = x by rw [← hW]; exact getD_last _ _]
theorem roots_start (w : List Nat) : roots w (List.replicate w.length 0) w.length = (List.range w.length).map fun i => (w.getD i 0, i) := by
  unfold roots
  rw [List.filter_eq_self.2]
  intro i _
  rw [rep_zero]; rfl

/-- What stands at a place taken out, the last one set there. -/
def out1 (l : List (Nat × Nat)) (i : Nat) : List (Nat × Nat) := (l.set i (l.getD (l.length - 1) (0, 0))).dropLast
theorem out1_perm (l : List (Nat × Nat)) (i : Nat) (t : Nat × Nat) (h : l[i]? = some t) : l.Perm (t :: out1 l i) := by
  obtain ⟨A, z, rfl⟩ : ∃ A z, l = A ++ [z] := by
    have : l ≠ [] := by rintro rfl; simp at h
    exact ⟨l.dropLast, l.getLast this, (List.dropLast_concat_getLast this).symm⟩
  have hz : (A ++ [z]).getD ((A ++ [z]).length - 1) (0, 0) = z := by simp [List.getD]
  unfold out1
  rw [hz]
  by_cases hi : i < A.length
  · rw [List.set_append_left _ _ hi, List.dropLast_concat]
    rw [List.getElem?_append_left hi] at h
    have e := List.getElem?_eq_some_iff.1 h
    obtain ⟨hl, hv⟩ := e
    have e1 : A = A.take i ++ t :: A.drop (i + 1) := by rw [← hv, ← List.drop_eq_getElem_cons hl, List.take_append_drop]
    have e2 : A.set i z = A.take i ++ z :: A.drop (i + 1) := by rw [List.set_eq_take_append_cons_drop, if_pos hl]
    rw [e2]
    conv => lhs; rw [e1]
    have p1 : (A.take i ++ t :: A.drop (i + 1)).Perm (t :: (A.take i ++ A.drop (i + 1))) := List.perm_middle
    have p2 : (A.take i ++ z :: A.drop (i + 1)).Perm (z :: (A.take i ++ A.drop (i + 1))) := List.perm_middle
    refine (p1.append_right [z]).trans ?_
    rw [List.cons_append]
    exact List.Perm.cons _ ((List.perm_append_singleton _ _).trans p2.symm)
  · have hl := (List.getElem?_eq_some_iff.1 h).1
    have : i = A.length := by simp at hl; omega
    subst this
    have ht : t = z := by simpa using h.symm
    subst ht
    have : (A ++ [t]).set A.length t = A ++ [t] := by
      apply List.ext_getElem?
      intro j
      rw [List.getElem?_set]
      split
      · rename_i hj
        subst hj
        simp
      · rfl
    rw [this, List.dropLast_concat]
    exact List.perm_append_singleton _ _
theorem out1_length (l : List (Nat × Nat)) (i : Nat) : (out1 l i).length = l.length - 1 := by simp [out1]
/-- What a run leaves in its list of tops lies below its end. -/
theorem hrun_tops (w : List Nat) (h0 : 1 ≤ w.length) : ∀ k, ∀ x ∈ (hrun w k).2, x < w.length + k
  | 0 => by
    intro x hx
    simp only [hrun] at hx
    have := List.eq_of_mem_replicate hx
    omega
  | k + 1 => by
    intro x hx
    have ih := hrun_tops w h0 k
    have hl := hrun_len w k
    rw [hrun] at hx
    simp only [hstep, List.mem_append, List.mem_singleton] at hx
    rcases hx with hx | rfl
    · rcases List.mem_or_eq_of_mem_set hx with h | h
      · rcases List.mem_or_eq_of_mem_set h with h | h
        · have := ih x h; omega
        · omega
      · omega
    · omega
theorem getD_lt_of {l : List Nat} {m : Nat} (h : ∀ x ∈ l, x < m) (hm : 0 < m) (j : Nat) : l.getD j 0 < m := by
  rw [List.getD]
  cases e : l[j]? with
  | none => exact hm
  | some x => exact h x (List.mem_of_getElem? e)
theorem Up.root {over : List Nat} {i d r : Nat} (u : Up over i d r) (hr : over.getD r 0 = 0) (hi : over.getD i 0 = 0) : d = 0 := (u.one hr (.here i) hi).1
theorem Up.next {over : List Nat} {i d r : Nat} (u : Up over i d r) (hr : over.getD r 0 = 0) (hi : over.getD i 0 ≠ 0) : ∃ e, d = e + 1 ∧ Up over (over.getD i 0) e r := by
  cases u with
  | here _ => exact absurd hr hi
  | step h h0 u => subst h; exact ⟨_, rfl, u⟩
/-- The lengths told so far, one of them up to e. -/
def outS (ls : List Nat) (n i e : Nat) : List Nat := ls.take i ++ e :: List.replicate (n - i - 1) 0
theorem outS_start (ls : List Nat) (n i : Nat) (h : i < n) : ls.take i ++ List.replicate (n - i) 0 = outS ls n i 0 := by
  unfold outS
  rw [show n - i = (n - i - 1) + 1 by omega, List.replicate_succ]
  simp
theorem outS_len (ls : List Nat) (n i e : Nat) (h : i < n) (hl : ls.length = n) : (outS ls n i e).length = n := by
  simp [outS]; omega
theorem outS_get (ls : List Nat) (n i e : Nat) (h : i < n) (hl : ls.length = n) : (outS ls n i e)[i]? = some e := by
  unfold outS
  have e1 : (ls.take i).length = i := by simp; omega
  rw [List.getElem?_append_right (by omega), e1, Nat.sub_self]; rfl
theorem outS_set (ls : List Nat) (n i e x : Nat) (h : i < n) (hl : ls.length = n) : (outS ls n i e).set i x = outS ls n i x := by
  unfold outS
  have e1 : (ls.take i).length = i := by simp; omega
  rw [List.set_append_right _ _ (by omega), e1, Nat.sub_self]; rfl
theorem outS_end (ls : List Nat) (n i : Nat) (h : i < n) (hl : ls.length = n) : outS ls n i (ls.getD i 0) = ls.take (i + 1) ++ List.replicate (n - (i + 1)) 0 := by
  unfold outS
  have : ls.getD i 0 = ls[i] := by rw [List.getD, List.getElem?_eq_getElem (by omega)]; rfl
  rw [this, List.take_succ_eq_append_getElem (by omega), List.append_assoc]
  rfl
/-- The two least taken out of the list, one after the other. -/
theorem two_out {W over : List Nat} {m a b i1 i2 : Nat} {tn : List (Nat × Nat)} {t1 t2 : Nat × Nat} (hp : tn.Perm (roots W over m)) (hl : over.length = m) (hm : m ≠ 0)
    (ha : leastI W over m = some a) (hb : leastI W (over.set a m) m = some b) (h1 : tn[i1]? = some t1) (h1m : ∀ u ∈ tn, ¬ (u.1 < t1.1 ∨ (u.1 = t1.1 ∧ u.2 < t1.2)))
    (h2 : (out1 tn i1)[i2]? = some t2) (h2m : ∀ u ∈ out1 tn i1, ¬ (u.1 < t2.1 ∨ (u.1 = t2.1 ∧ u.2 < t2.2))) :
    t1 = (W.getD a 0, a) ∧ t2 = (W.getD b 0, b) ∧ a ≠ b ∧ (out1 (out1 tn i1) i2).Perm (roots W ((over.set a m).set b m) m) := by
  obtain ⟨a1, a2⟩ := least_mem ha
  obtain ⟨b1, b2⟩ := least_mem hb
  have e1 := min_root ha (hp.mem_iff.1 (List.mem_of_getElem? h1)) fun u hu => h1m u (hp.mem_iff.2 hu)
  have p1 := take_root (W := W) a1 a2 (by omega) hm
  have q1 := out1_perm tn i1 t1 h1
  rw [e1] at q1
  have r1 : (out1 tn i1).Perm (roots W (over.set a m) m) := (q1.symm.trans (hp.trans p1)).cons_inv
  have e2 := min_root hb (r1.mem_iff.1 (List.mem_of_getElem? h2)) fun u hu => h2m u (r1.mem_iff.2 hu)
  have p2 := take_root (W := W) b1 b2 (by rw [List.length_set]; omega) hm
  have q2 := out1_perm (out1 tn i1) i2 t2 h2
  rw [e2] at q2
  refine ⟨e1, e2, fun h => ?_, (q2.symm.trans (r1.trans p2)).cons_inv⟩
  subst h
  rw [getD_set, if_pos ⟨rfl, by omega⟩] at b2
  exact hm b2
theorem le_sum_of {w : List Nat} {x : Nat} (h : x ∈ w) : x ≤ w.sum := by
  induction w with
  | nil => cases h
  | cons y w ih =>
    rw [List.sum_cons]
    rcases List.mem_cons.1 h with h | h
    · omega
    · have := ih h; omega
theorem hrun_bound (w : List Nat) (hw : ∀ x ∈ w, 1 ≤ x) : ∀ k, k + 1 ≤ w.length → ∀ x ∈ (hrun w k).1, x ≤ w.sum
  | 0, _, x, hx => le_sum_of hx
  | k + 1, hk, x, hx => by
    obtain ⟨a, b, -, -, -, -, he, hs⟩ := hrun_step w hw k (by omega)
    rw [he] at hx
    rcases List.mem_append.1 hx with h | h
    · exact hrun_bound w hw k (by omega) x h
    · rw [List.mem_singleton] at h; omega
end K
end Go.Proofs.Ytcjkjknahalpnaa
