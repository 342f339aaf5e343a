/-
  Canonical prefix codes in plain words.
-/
import Derived.Test.YtcjkjknahalpnaaPlainS
import Derived.Test.YtcjkjknahalpnaaPlainK
namespace Go.Proofs.Ytcjkjknahalpnaa
namespace K
set_option linter.unusedVariables false

/-! ### Lengths that may be -/
/-- How much room lengths take, of 2^20. -/
def room (ls : List Nat) : Nat := (ls.map fun x => 2 ^ (20 - x)).sum
def natsOf (l : List Int) : List Nat := l.map Int.toNat
theorem natsOf_length (l : List Int) : (natsOf l).length = l.length := by simp [natsOf]
/-- May lengths be? -/
def goodL (l : List Int) : Bool := lensOk l && decide (room (natsOf l) ≤ 1048576)
theorem goodL_lens {l : List Int} (h : goodL l = true) : lensOk l = true := by unfold goodL at h; simp at h; exact h.1
theorem goodL_room {l : List Int} (h : goodL l = true) : room (natsOf l) ≤ 1048576 := by unfold goodL at h; simp at h; exact h.2
theorem goodL_in {l : List Int} (h : goodL l = true) : ∀ x ∈ natsOf l, 1 ≤ x ∧ x ≤ 20 := by
  intro x hx
  simp only [natsOf, List.mem_map] at hx
  obtain ⟨y, hy, rfl⟩ := hx
  have := ((lensOk_iff l).1 (goodL_lens h)).2 y hy
  omega
theorem room_snoc (ls : List Nat) (x : Nat) : room (ls ++ [x]) = room ls + 2 ^ (20 - x) := by simp [room]
theorem room_le (ls : List Nat) : room ls ≤ ls.length * 1048576 := by
  induction ls with
  | nil => simp [room]
  | cons x ls ih =>
    have : 2 ^ (20 - x) ≤ 2 ^ 20 := Nat.pow_le_pow_right (by decide) (by omega)
    have e : room (x :: ls) = 2 ^ (20 - x) + room ls := by simp [room]
    rw [e, List.length_cons, Nat.succ_mul]
    have e2 : (2 : Nat) ^ 20 = 1048576 := rfl
    omega

/-! ### Codes -/
def firstP (ls : List Nat) : Nat → Nat
  | 0 => 0
  | n + 1 => 2 * (firstP ls n + ls.count n)
/-- The symbols with codes of length n, of the first i. -/
def idxsTo (ls : List Nat) (n i : Nat) : List Nat := (List.range i).filter fun j => decide (ls.getD j 0 = n)
def idxs (ls : List Nat) (n : Nat) : List Nat := idxsTo ls n ls.length
/-- Those with codes shorter than n. -/
def orderTo (ls : List Nat) : Nat → List Nat
  | 0 => []
  | n + 1 => orderTo ls n ++ idxs ls n
def codeP (ls : List Nat) (i : Nat) : Nat := firstP ls (ls.getD i 0) + (ls.take i).count (ls.getD i 0)
def codesP (ls : List Nat) : List Nat := (List.range ls.length).map (codeP ls)
theorem codesP_length (ls : List Nat) : (codesP ls).length = ls.length := by simp [codesP]
theorem codesP_get (ls : List Nat) (i : Nat) (h : i < ls.length) : (codesP ls)[i]? = some (codeP ls i) := by simp [codesP, List.getElem?_range h]
/-- Codes as bits. -/
def tabP (ls : List Nat) : List (List Bool) := (List.range ls.length).map fun i => low (codeP ls i) (ls.getD i 0)
theorem tabP_length (ls : List Nat) : (tabP ls).length = ls.length := by simp [tabP]
theorem tabP_get (ls : List Nat) (i : Nat) (h : i < ls.length) : (tabP ls)[i]? = some (low (codeP ls i) (ls.getD i 0)) := by simp [tabP, List.getElem?_range h]

theorem idxsTo_zero (ls : List Nat) (n : Nat) : idxsTo ls n 0 = [] := rfl
theorem idxsTo_yes (ls : List Nat) (n i : Nat) (h : ls.getD i 0 = n) : idxsTo ls n (i + 1) = idxsTo ls n i ++ [i] := by
  unfold idxsTo; rw [List.range_succ, List.filter_append]; congr 1; rw [List.filter_cons, if_pos (decide_eq_true h)]; rfl
theorem idxsTo_no (ls : List Nat) (n i : Nat) (h : ls.getD i 0 ≠ n) : idxsTo ls n (i + 1) = idxsTo ls n i := by
  unfold idxsTo; rw [List.range_succ, List.filter_append, List.filter_cons, if_neg (by rw [decide_eq_false h]; decide)]; simp
theorem take_count (ls : List Nat) (n i : Nat) (h : i < ls.length) : (ls.take (i + 1)).count n = (ls.take i).count n + if ls.getD i 0 = n then 1 else 0 := by
  rw [List.take_succ_eq_append_getElem h, List.count_append, List.getD, List.getElem?_eq_getElem h, Option.getD_some, List.count_singleton]
  congr 1
  by_cases he : ls[i] = n <;> simp [he]
theorem idxsTo_length (ls : List Nat) (n : Nat) : ∀ i, i ≤ ls.length → (idxsTo ls n i).length = (ls.take i).count n := by
  intro i
  induction i with
  | zero => intro _; simp [idxsTo]
  | succ i ih =>
    intro hi
    rw [take_count ls n i (by omega), ← ih (by omega)]
    by_cases he : ls.getD i 0 = n
    · rw [idxsTo_yes _ _ _ he, if_pos he]; simp
    · rw [idxsTo_no _ _ _ he, if_neg he]; simp
theorem idxs_length (ls : List Nat) (n : Nat) : (idxs ls n).length = ls.count n := by
  unfold idxs; rw [idxsTo_length ls n _ (Nat.le_refl _), List.take_length]
theorem idxsTo_get (ls : List Nat) (n k i : Nat) : ∀ m, m ≤ ls.length → ((idxsTo ls n m)[k]? = some i ↔ i < m ∧ ls.getD i 0 = n ∧ (ls.take i).count n = k) := by
  intro m
  induction m with
  | zero => intro _; simp [idxsTo]
  | succ m ih =>
    intro hm
    have ih := ih (by omega)
    have hlen := idxsTo_length ls n m (by omega)
    by_cases he : ls.getD m 0 = n
    · rw [idxsTo_yes _ _ _ he]
      rcases Nat.lt_or_ge k (idxsTo ls n m).length with hk | hk
      · rw [List.getElem?_append_left hk, ih]
        constructor
        · exact fun h => ⟨by omega, h.2⟩
        · rintro ⟨h1, h2, h3⟩
          refine ⟨?_, h2, h3⟩
          rcases Nat.lt_or_ge i m with h | h
          · exact h
          · obtain rfl : i = m := by omega
            omega
      · rw [List.getElem?_append_right hk]
        constructor
        · intro h
          have hlt := (List.getElem?_eq_some_iff.1 h).1
          simp at hlt
          have hz : k - (idxsTo ls n m).length = 0 := by omega
          rw [hz] at h
          simp at h
          subst h
          exact ⟨by omega, he, by omega⟩
        · rintro ⟨h1, h2, h3⟩
          rcases Nat.lt_or_ge i m with h | h
          · have := (ih.2 ⟨h, h2, h3⟩)
            have := (List.getElem?_eq_some_iff.1 this).1
            omega
          · obtain rfl : i = m := by omega
            have hz : k - (idxsTo ls n i).length = 0 := by omega
            rw [hz]; rfl
    · rw [idxsTo_no _ _ _ he, ih]
      constructor
      · exact fun h => ⟨by omega, h.2⟩
      · rintro ⟨h1, h2, h3⟩
        refine ⟨?_, h2, h3⟩
        rcases Nat.lt_or_ge i m with h | h
        · exact h
        · obtain rfl : i = m := by omega
          exact absurd h2 he
theorem idxs_get (ls : List Nat) (n k i : Nat) : (idxs ls n)[k]? = some i ↔ i < ls.length ∧ ls.getD i 0 = n ∧ (ls.take i).count n = k := idxsTo_get ls n k i ls.length (Nat.le_refl _)
theorem orderTo_more (ls : List Nat) (n : Nat) : ∀ d, ∃ t, orderTo ls (n + d) = orderTo ls n ++ t := by
  intro d
  induction d with
  | zero => exact ⟨[], by simp⟩
  | succ d ih => obtain ⟨t, ht⟩ := ih; exact ⟨t ++ idxs ls (n + d), by rw [show n + (d + 1) = n + d + 1 by omega, orderTo, ht, List.append_assoc]⟩
theorem orderTo_get (ls : List Nat) (n N k i : Nat) (hn : n < N) (h : (idxs ls n)[k]? = some i) : (orderTo ls N)[(orderTo ls n).length + k]? = some i := by
  obtain ⟨t, ht⟩ := orderTo_more ls (n + 1) (N - (n + 1))
  rw [show n + 1 + (N - (n + 1)) = N by omega] at ht
  have hk := (List.getElem?_eq_some_iff.1 h).1
  rw [ht, orderTo, List.append_assoc, List.getElem?_append_right (by omega), Nat.add_sub_cancel_left, List.getElem?_append_left hk]
  exact h
theorem orderTo_inv (ls : List Nat) : ∀ N k i, (orderTo ls N)[k]? = some i → i < ls.length ∧ ls.getD i 0 < N ∧ k = (orderTo ls (ls.getD i 0)).length + (ls.take i).count (ls.getD i 0) := by
  intro N
  induction N with
  | zero => intro k i h; simp [orderTo] at h
  | succ N ih =>
    intro k i h
    rw [orderTo] at h
    rcases Nat.lt_or_ge k (orderTo ls N).length with hk | hk
    · rw [List.getElem?_append_left hk] at h
      obtain ⟨h1, h2, h3⟩ := ih k i h
      exact ⟨h1, by omega, h3⟩
    · rw [List.getElem?_append_right hk] at h
      obtain ⟨h1, h2, h3⟩ := (idxs_get ls N _ i).1 h
      subst h2
      exact ⟨h1, by omega, by omega⟩
theorem orderTo_lt (ls : List Nat) (N : Nat) : ∀ i ∈ orderTo ls N, i < ls.length := by
  intro i hi
  obtain ⟨k, hk⟩ := List.getElem?_of_mem hi
  exact (orderTo_inv ls N k i hk).1
theorem orderTo_all (ls : List Nat) (N : Nat) (h : ∀ x ∈ ls, x < N) (i : Nat) (hi : i < ls.length) : ∃ k : Nat, (orderTo ls N)[k]? = some i := by
  have hm : ls.getD i 0 < N := by
    rw [List.getD, List.getElem?_eq_getElem hi]; exact h _ (List.getElem_mem hi)
  exact ⟨_, orderTo_get ls (ls.getD i 0) N _ i hm ((idxs_get ls _ _ i).2 ⟨hi, rfl, rfl⟩)⟩

/-! ### Room -/
theorem upto (ls : List Nat) (n : Nat) : firstP ls n + ls.count n = (ls.map fun x => if x ≤ n then 2 ^ (n - x) else 0).sum := by
  induction n with
  | zero =>
    rw [firstP, Nat.zero_add]
    induction ls with
    | nil => rfl
    | cons x ls ih =>
      rw [List.count_cons, List.map_cons, List.sum_cons, ih]
      by_cases hx : x = 0
      · subst hx; simp; omega
      · simp [hx]
  | succ n ih =>
    rw [firstP, ih]
    clear ih
    induction ls with
    | nil => rfl
    | cons x ls ih =>
      rw [List.count_cons, List.map_cons, List.sum_cons, List.map_cons, List.sum_cons, ← ih]
      have hp : (2 : Nat) ^ (n + 1 - (n + 1)) = 1 := by simp
      by_cases hx : x ≤ n
      · have e1 : (if x ≤ n then 2 ^ (n - x) else 0) = 2 ^ (n - x) := if_pos hx
        have e2 : (if x ≤ n + 1 then 2 ^ (n + 1 - x) else 0) = 2 * 2 ^ (n - x) := by rw [if_pos (by omega), show n + 1 - x = (n - x) + 1 by omega, Nat.pow_succ]; omega
        have e3 : (x == n + 1) = false := by simp; omega
        rw [e1, e2, e3]; simp; omega
      · have e1 : (if x ≤ n then 2 ^ (n - x) else 0) = 0 := if_neg hx
        rw [e1]
        by_cases hx2 : x = n + 1
        · subst hx2
          rw [if_pos (Nat.le_refl _), hp]; simp; omega
        · have e3 : (x == n + 1) = false := by simp; omega
          rw [if_neg (show ¬ x ≤ n + 1 by omega), e3]; simp
theorem upto_le (ls : List Nat) (h20 : ∀ x ∈ ls, x ≤ 20) (n : Nat) (hn : n ≤ 20) : (firstP ls n + ls.count n) * 2 ^ (20 - n) ≤ room ls := by
  rw [upto]
  unfold room
  induction ls with
  | nil => simp
  | cons x ls ih =>
    have ih := ih (fun y hy => h20 y (by simp [hy]))
    have hx := h20 x (by simp)
    rw [List.map_cons, List.sum_cons, List.map_cons, List.sum_cons, Nat.add_mul]
    by_cases hxn : x ≤ n
    · rw [if_pos hxn, ← Nat.pow_add, show n - x + (20 - n) = 20 - x by omega]; omega
    · rw [if_neg hxn, Nat.zero_mul, Nat.zero_add]; exact Nat.le_trans ih (Nat.le_add_left _ _)
theorem fits (ls : List Nat) (h20 : ∀ x ∈ ls, x ≤ 20) (hr : room ls ≤ 1048576) (n : Nat) (hn : n ≤ 20) : firstP ls n + ls.count n ≤ 2 ^ n := by
  have h1 := upto_le ls h20 n hn
  have h2 : (firstP ls n + ls.count n) * 2 ^ (20 - n) ≤ 2 ^ n * 2 ^ (20 - n) := by
    rw [← Nat.pow_add, show n + (20 - n) = 20 by omega]
    exact Nat.le_trans h1 hr
  exact Nat.le_of_mul_le_mul_right h2 (Nat.two_pow_pos _)
theorem first_more (ls : List Nat) (n : Nat) : ∀ d, (firstP ls n + ls.count n) * 2 ^ (d + 1) ≤ firstP ls (n + d + 1) := by
  intro d
  induction d with
  | zero => rw [firstP]; omega
  | succ d ih =>
    rw [show n + (d + 1) + 1 = (n + d + 1) + 1 by omega, firstP, Nat.pow_succ, ← Nat.mul_assoc]
    omega
theorem code_in (ls : List Nat) (i : Nat) (hi : i < ls.length) : firstP ls (ls.getD i 0) ≤ codeP ls i ∧ codeP ls i < firstP ls (ls.getD i 0) + ls.count (ls.getD i 0) := by
  unfold codeP
  refine ⟨by omega, ?_⟩
  have h1 := take_count ls (ls.getD i 0) i hi
  rw [if_pos rfl] at h1
  have h2 : (ls.take (i + 1)).count (ls.getD i 0) ≤ ls.count (ls.getD i 0) := (List.take_sublist _ _).count_le _
  omega
theorem code_lt (ls : List Nat) (h20 : ∀ x ∈ ls, x ≤ 20) (hr : room ls ≤ 1048576) (i : Nat) (hi : i < ls.length) : codeP ls i < 2 ^ (ls.getD i 0) := by
  have hx : ls.getD i 0 ≤ 20 := by rw [List.getD, List.getElem?_eq_getElem hi]; exact h20 _ (List.getElem_mem hi)
  have := fits ls h20 hr _ hx
  have := code_in ls i hi
  omega
theorem code_at (ls : List Nat) (n k i : Nat) (h : (idxs ls n)[k]? = some i) : codeP ls i = firstP ls n + k := by
  obtain ⟨h1, h2, h3⟩ := (idxs_get ls n k i).1 h
  unfold codeP
  rw [h2, h3]
theorem code_has (ls : List Nat) (n c : Nat) (h1 : firstP ls n ≤ c) (h2 : c < firstP ls n + ls.count n) : ∃ i, i < ls.length ∧ ls.getD i 0 = n ∧ codeP ls i = c ∧ (idxs ls n)[c - firstP ls n]? = some i := by
  have hk : c - firstP ls n < (idxs ls n).length := by rw [idxs_length]; omega
  have hg := List.getElem?_eq_getElem hk
  obtain ⟨h3, h4, h5⟩ := (idxs_get ls n _ _).1 hg
  exact ⟨_, h3, h4, by rw [code_at ls n _ _ hg]; omega, hg⟩
theorem code_one (ls : List Nat) (i j : Nat) (hi : i < ls.length) (hj : j < ls.length) (hl : ls.getD i 0 = ls.getD j 0) (hc : codeP ls i = codeP ls j) : i = j := by
  have h1 := (idxs_get ls (ls.getD i 0) _ i).2 ⟨hi, rfl, rfl⟩
  have h2 := (idxs_get ls (ls.getD i 0) _ j).2 ⟨hj, hl.symm, rfl⟩
  unfold codeP at hc
  rw [← hl] at hc
  rw [show (ls.take i).count (ls.getD i 0) = (ls.take j).count (ls.getD i 0) by omega, h2] at h1
  exact (Option.some.inj h1).symm

/-! ### Begins some longer code with c? -/
def beginsP (ls : List Nat) (c n : Nat) : Bool := (List.range 21).any fun m => decide (n < m ∧ 0 < ls.count m ∧ c * 2 ^ (m - n) < firstP ls m + ls.count m)
theorem beginsP_iff (ls : List Nat) (c n : Nat) : beginsP ls c n = true ↔ ∃ m, m ≤ 20 ∧ n < m ∧ 0 < ls.count m ∧ c * 2 ^ (m - n) < firstP ls m + ls.count m := by
  unfold beginsP
  simp only [List.any_eq_true, List.mem_range, decide_eq_true_eq]
  constructor
  · rintro ⟨m, h1, h2⟩; exact ⟨m, by omega, h2⟩
  · rintro ⟨m, h1, h2⟩; exact ⟨m, by omega, h2⟩
theorem begins_some (ls : List Nat) (c n : Nat) (hc : firstP ls n + ls.count n ≤ c) (h : beginsP ls c n = true) : ∃ i, i < ls.length ∧ n < ls.getD i 0 ∧ codeP ls i / 2 ^ (ls.getD i 0 - n) = c := by
  rw [beginsP_iff] at h
  have hex : ∃ m, m ≤ 20 ∧ n < m ∧ 0 < ls.count m ∧ c * 2 ^ (m - n) < firstP ls m + ls.count m := h
  clear h
  -- the least such m
  have least : ∀ b, (∃ m, m ≤ b ∧ n < m ∧ 0 < ls.count m ∧ c * 2 ^ (m - n) < firstP ls m + ls.count m) →
      ∃ m, n < m ∧ 0 < ls.count m ∧ c * 2 ^ (m - n) < firstP ls m + ls.count m ∧ ∀ j, n < j → j < m → 0 < ls.count j → firstP ls j + ls.count j ≤ c * 2 ^ (j - n) := by
    intro b
    induction b with
    | zero => rintro ⟨m, h1, h2, -⟩; omega
    | succ b ih =>
      rintro ⟨m, h1, h2, h3, h4⟩
      by_cases hsm : ∃ m, m ≤ b ∧ n < m ∧ 0 < ls.count m ∧ c * 2 ^ (m - n) < firstP ls m + ls.count m
      · exact ih hsm
      · refine ⟨m, h2, h3, h4, fun j hj1 hj2 hj3 => ?_⟩
        rcases Nat.lt_or_ge (c * 2 ^ (j - n)) (firstP ls j + ls.count j) with h | h
        · exact absurd ⟨j, by omega, hj1, hj3, h⟩ hsm
        · exact h
  obtain ⟨m, hm1, hm2, hm3, hleast⟩ := least 20 hex
  have key : ∀ d, n + d < m → firstP ls (n + d) + ls.count (n + d) ≤ c * 2 ^ d := by
    intro d
    induction d with
    | zero => intro _; simpa using hc
    | succ d ih =>
      intro hd
      have ih := ih (by omega)
      rcases Nat.eq_zero_or_pos (ls.count (n + (d + 1))) with h0 | h0
      · rw [h0, show n + (d + 1) = (n + d) + 1 by omega, firstP, Nat.pow_succ, ← Nat.mul_assoc]
        omega
      · have := hleast (n + (d + 1)) (by omega) hd h0
        rwa [show n + (d + 1) - n = d + 1 by omega] at this
  have hlast := key (m - 1 - n) (by omega)
  have hfm : firstP ls m ≤ c * 2 ^ (m - n) := by
    rw [show m = (n + (m - 1 - n)) + 1 by omega, firstP, show n + (m - 1 - n) + 1 - n = (m - 1 - n) + 1 by omega, Nat.pow_succ, ← Nat.mul_assoc]
    omega
  obtain ⟨i, hi, hl, hcd, -⟩ := code_has ls m _ hfm hm3
  refine ⟨i, hi, by omega, ?_⟩
  rw [hcd, hl]
  exact Nat.mul_div_cancel _ (Nat.two_pow_pos _)
theorem some_begins (ls : List Nat) (h20 : ∀ x ∈ ls, x ≤ 20) (c n i : Nat) (hi : i < ls.length) (hn : n < ls.getD i 0) (h : codeP ls i / 2 ^ (ls.getD i 0 - n) = c) : beginsP ls c n = true := by
  rw [beginsP_iff]
  have hx : ls.getD i 0 ≤ 20 := by rw [List.getD, List.getElem?_eq_getElem hi]; exact h20 _ (List.getElem_mem hi)
  have hin := code_in ls i hi
  refine ⟨ls.getD i 0, hx, hn, by omega, ?_⟩
  have : c * 2 ^ (ls.getD i 0 - n) ≤ codeP ls i := by rw [← h]; exact Nat.div_mul_le_self _ _
  omega
/-- A longer code's head is above all codes of its length. -/
theorem head_above (ls : List Nat) (n i : Nat) (hi : i < ls.length) (hn : n < ls.getD i 0) : firstP ls n + ls.count n ≤ codeP ls i / 2 ^ (ls.getD i 0 - n) := by
  rw [Nat.le_div_iff_mul_le (Nat.two_pow_pos _)]
  have h1 := first_more ls n (ls.getD i 0 - n - 1)
  rw [show ls.getD i 0 - n - 1 + 1 = ls.getD i 0 - n by omega, show n + (ls.getD i 0 - n - 1) + 1 = ls.getD i 0 by omega] at h1
  have := (code_in ls i hi).1
  omega
end K
end Go.Proofs.Ytcjkjknahalpnaa
