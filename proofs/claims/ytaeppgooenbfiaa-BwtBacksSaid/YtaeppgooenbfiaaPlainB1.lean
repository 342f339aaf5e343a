/-
  The places of a text's bytes in their stable order, plainly. A text is read out of its rotations' last column, plainly. What bwt.Back's loops hold, plainly.
-/
import Derived.WalkKit
import Derived.Test.YtaeppgooenbfiaaPlainW
namespace Go.Proofs.Ytaeppgooenbfiaa
namespace K
set_option linter.unusedVariables false
set_option linter.unusedSimpArgs false

/-- How many of l are below b. -/
def cLt (l : List Nat) (b : Nat) : Nat := l.countP (· < b)
/-- How many of the first k of l are b. -/
def cEq (l : List Nat) (k b : Nat) : Nat := (l.take k).count b
/-- Where the i-th of l stands in the stable order. -/
def pos (l : List Nat) (i : Nat) : Nat := cLt l (l.getD i 0) + cEq l i (l.getD i 0)
/-- The places of b among the first k. -/
def occ (l : List Nat) (b k : Nat) : List Nat := (List.range k).filter fun i => l.getD i 0 == b
def stab (l : List Nat) (b : Nat) : List Nat := (List.range b).flatMap fun c => occ l c l.length

theorem cLt_zero (l : List Nat) : cLt l 0 = 0 := by simp [cLt]
theorem cLt_succ (l : List Nat) (b : Nat) : cLt l (b + 1) = cLt l b + l.count b := by
  unfold cLt
  induction l with
  | nil => rfl
  | cons x l ih =>
    rw [List.countP_cons, List.countP_cons, List.count_cons, ih]
    by_cases h1 : x < b
    · have h2 : x < b + 1 := by omega
      have h3 : (x == b) = false := by simp; omega
      simp [h1, h2, h3]; omega
    · by_cases h2 : x = b
      · subst h2; simp; omega
      · have h3 : (x == b) = false := by simpa using h2
        have h4 : ¬ x < b + 1 := by omega
        simp [h1, h3, h4]
theorem cLt_le (l : List Nat) (b : Nat) : cLt l b ≤ l.length := List.countP_le_length
theorem cEq_zero (l : List Nat) (b : Nat) : cEq l 0 b = 0 := by simp [cEq]
theorem cEq_succ (l : List Nat) (k b x : Nat) (h : l[k]? = some x) : cEq l (k + 1) b = cEq l k b + if x = b then 1 else 0 := by
  unfold cEq
  rw [List.take_add_one, h, List.count_append]
  by_cases hx : x = b
  · subst hx; simp
  · simp [hx]
theorem cEq_all (l : List Nat) (b : Nat) : cEq l l.length b = l.count b := by simp [cEq]
theorem cEq_mono (l : List Nat) (b : Nat) {i k : Nat} (h : i ≤ k) : cEq l i b ≤ cEq l k b := by
  unfold cEq
  have : l.take i = (l.take k).take i := by rw [List.take_take, Nat.min_eq_left h]
  rw [this]
  exact (List.take_sublist i (l.take k)).count_le _
theorem cEq_lt (l : List Nat) (i x : Nat) (h : l[i]? = some x) : cEq l i x < l.count x := by
  have h1 := cEq_succ l i x x h
  have h2 := cEq_mono l x (i := i + 1) (k := l.length) (by have := (List.getElem?_eq_some_iff.1 h).1; omega)
  rw [cEq_all] at h2
  simp at h1
  omega
theorem cLt_mono (l : List Nat) {a b : Nat} (h : a ≤ b) : cLt l a ≤ cLt l b := by
  induction b with
  | zero => obtain rfl : a = 0 := by omega
            exact Nat.le_refl _
  | succ b ih =>
    by_cases h2 : a = b + 1
    · subst h2; exact Nat.le_refl _
    · have := ih (by omega); rw [cLt_succ]; omega
theorem pos_lt (l : List Nat) (i : Nat) (h : i < l.length) : pos l i < l.length := by
  unfold pos
  have hx : l[i]? = some (l.getD i 0) := by rw [List.getD, List.getElem?_eq_getElem h]; rfl
  generalize l.getD i 0 = x at *
  have h1 := cEq_lt l i x hx
  have h2 := cLt_succ l x
  have h3 := cLt_le l (x + 1)
  omega
theorem pos_inj (l : List Nat) (i j : Nat) (hi : i < l.length) (hj : j < l.length) (h : pos l i = pos l j) : i = j := by
  have hx : l[i]? = some (l.getD i 0) := by rw [List.getD, List.getElem?_eq_getElem hi]; rfl
  have hy : l[j]? = some (l.getD j 0) := by rw [List.getD, List.getElem?_eq_getElem hj]; rfl
  unfold pos at h
  generalize l.getD i 0 = x at *
  generalize l.getD j 0 = y at *
  have h1 := cEq_lt l i x hx
  have h2 := cEq_lt l j y hy
  have h3 := cLt_succ l x
  have h4 := cLt_succ l y
  have hxy : x = y := by
    rcases Nat.lt_trichotomy x y with h5 | h5 | h5
    · have := cLt_mono l (a := x + 1) (b := y) (by omega); omega
    · exact h5
    · have := cLt_mono l (a := y + 1) (b := x) (by omega); omega
  subst hxy
  have h5 := cEq_succ l i x x hx
  have h6 := cEq_succ l j x x hy
  rw [if_pos rfl] at h5 h6
  rcases Nat.lt_trichotomy i j with h7 | h7 | h7
  · have := cEq_mono l x (i := i + 1) (k := j) (by omega); omega
  · exact h7
  · have := cEq_mono l x (i := j + 1) (k := i) (by omega); omega

theorem occ_succ (l : List Nat) (b k x : Nat) (h : l[k]? = some x) : occ l b (k + 1) = occ l b k ++ if x = b then [k] else [] := by
  unfold occ
  have : l.getD k 0 = x := by rw [List.getD, h]; rfl
  rw [List.range_succ, List.filter_append]
  by_cases hx : x = b
  · subst hx; simp [this, -List.getD_eq_getElem?_getD]
  · simp [this, hx, -List.getD_eq_getElem?_getD]
theorem occ_length (l : List Nat) (b : Nat) : ∀ k, k ≤ l.length → (occ l b k).length = cEq l k b
  | 0, _ => by simp [occ, cEq]
  | k + 1, h => by
    have hx : l[k]? = some l[k] := List.getElem?_eq_getElem (by omega)
    rw [occ_succ l b k _ hx, cEq_succ l k b _ hx, List.length_append, occ_length l b k (by omega)]
    split <;> rfl
theorem stab_succ (l : List Nat) (b : Nat) : stab l (b + 1) = stab l b ++ occ l b l.length := by
  unfold stab; rw [List.range_succ, List.flatMap_append]; simp
theorem stab_length (l : List Nat) : ∀ b, (stab l b).length = cLt l b
  | 0 => by simp [stab, cLt_zero]
  | b + 1 => by rw [stab_succ, List.length_append, stab_length l b, occ_length l b _ (Nat.le_refl _), cEq_all, cLt_succ]
theorem mem_occ (l : List Nat) (b k i : Nat) : i ∈ occ l b k ↔ i < k ∧ l.getD i 0 = b := by simp [occ, -List.getD_eq_getElem?_getD]
theorem mem_stab (l : List Nat) (b i : Nat) : i ∈ stab l b ↔ i < l.length ∧ l.getD i 0 < b := by
  unfold stab
  simp only [List.mem_flatMap, List.mem_range, mem_occ]
  constructor
  · rintro ⟨c, h1, h2, h3⟩; exact ⟨h2, by omega⟩
  · rintro ⟨h1, h2⟩; exact ⟨_, h2, h1, rfl⟩
theorem occ_nodup (l : List Nat) (b k : Nat) : (occ l b k).Nodup := List.Nodup.sublist (List.filter_sublist) List.nodup_range
theorem stab_nodup (l : List Nat) : ∀ b, (stab l b).Nodup
  | 0 => by simp [stab]
  | b + 1 => by
    rw [stab_succ, List.nodup_append]
    refine ⟨stab_nodup l b, occ_nodup _ _ _, fun x hx y hy => ?_⟩
    rw [mem_stab] at hx
    rw [mem_occ] at hy
    rintro rfl
    omega
theorem stab_prefix (l : List Nat) (a : Nat) : ∀ b, a ≤ b → ∃ r, stab l b = stab l a ++ r
  | 0, h => by obtain rfl : a = 0 := by omega
               exact ⟨[], by simp⟩
  | b + 1, h => by
    by_cases h2 : a = b + 1
    · subst h2; exact ⟨[], by simp⟩
    · obtain ⟨r, hr⟩ := stab_prefix l a b (by omega)
      exact ⟨r ++ occ l b l.length, by rw [stab_succ, hr, List.append_assoc]⟩
theorem occ_prefix (l : List Nat) (b i : Nat) : ∀ k, i ≤ k → k ≤ l.length → ∃ r, occ l b k = occ l b i ++ r
  | 0, h, _ => by obtain rfl : i = 0 := by omega
                  exact ⟨[], by simp⟩
  | k + 1, h, hk => by
    by_cases h2 : i = k + 1
    · subst h2; exact ⟨[], by simp⟩
    · obtain ⟨r, hr⟩ := occ_prefix l b i k (by omega) (by omega)
      exact ⟨_, by rw [occ_succ l b k _ (List.getElem?_eq_getElem (by omega)), hr, List.append_assoc]⟩
theorem stab_pos (l : List Nat) (B i : Nat) (h : i < l.length) (hB : l.getD i 0 < B) : (stab l B)[pos l i]? = some i := by
  have hx : l[i]? = some (l.getD i 0) := by rw [List.getD, List.getElem?_eq_getElem h]; rfl
  unfold pos
  generalize l.getD i 0 = x at *
  obtain ⟨r, hr⟩ := stab_prefix l (x + 1) B (by omega)
  obtain ⟨q, hq⟩ := occ_prefix l x (i + 1) l.length (by omega) (Nat.le_refl _)
  rw [hr, stab_succ, hq, occ_succ l x i x hx, if_pos rfl]
  have e1 := stab_length l x
  have e2 := occ_length l x i (by omega)
  rw [List.append_assoc, List.append_assoc, List.append_assoc, List.getElem?_append_right (by omega), e1, List.getElem?_append_right (by omega), e2]
  simp
/-- A list that tells each place's place is the stable order. -/
theorem places_stab (l P : List Nat) (hb : ∀ x ∈ l, x < 256) (hl : P.length = l.length) (h : ∀ j, j < l.length → P[pos l j]? = some j) : P = stab l 256 := by
  have hall : ∀ i, i < l.length → l.getD i 0 < 256 := by
    intro i hi
    rw [List.getD, List.getElem?_eq_getElem hi]
    exact hb _ (List.getElem_mem hi)
  have hsl : (stab l 256).length = l.length := by
    rw [stab_length]
    unfold cLt
    rw [List.countP_eq_length]
    intro x hx; simpa using hb x hx
  apply List.ext_getElem?
  intro p
  by_cases hp : p < l.length
  · have hj := List.getElem?_eq_getElem (l := stab l 256) (i := p) (by omega)
    generalize (stab l 256)[p]'(by omega) = j at hj
    have hm : j ∈ stab l 256 := List.mem_of_getElem? hj
    rw [mem_stab] at hm
    have h2 := stab_pos l 256 j hm.1 hm.2
    have h3 : pos l j = p := by
      have hpl := pos_lt l j hm.1
      have hn := stab_nodup l 256
      have a1 := (List.getElem?_eq_some_iff.1 h2).2
      have a2 := (List.getElem?_eq_some_iff.1 hj).2
      have hne := List.pairwise_iff_getElem.1 (show (stab l 256).Pairwise (· ≠ ·) from hn)
      rcases Nat.lt_trichotomy (pos l j) p with h4 | h4 | h4
      · exact absurd (a1.trans a2.symm) (hne _ _ _ _ h4)
      · exact h4
      · exact absurd (a2.trans a1.symm) (hne _ _ _ _ h4)
    rw [hj, ← h3]
    exact h j hm.1
  · rw [List.getElem?_eq_none (by omega), List.getElem?_eq_none (by omega)]
/-- Reading on from place p: so many bytes. -/
def readB (l P : List Nat) : Nat → Nat → List Nat
  | 0, _ => []
  | k + 1, p => l.getD (P.getD p 0) 0 :: readB l P k (P.getD p 0)
def walkB (P : List Nat) : Nat → Nat → Nat
  | 0, p => p
  | k + 1, p => P.getD (walkB P k p) 0
theorem walkB_succ (P : List Nat) : ∀ k p, walkB P (k + 1) p = walkB P k (P.getD p 0)
  | 0, p => rfl
  | k + 1, p => by rw [walkB, walkB_succ P k p]; rfl
theorem readB_eq (l P : List Nat) : ∀ k p, readB l P k p = (List.range k).map fun t => l.getD (walkB P (t + 1) p) 0
  | 0, p => rfl
  | k + 1, p => by
    rw [readB, readB_eq l P k, List.range_succ_eq_map, List.map_cons, List.map_map]
    congr 1
    refine List.map_congr_left fun t _ => ?_
    simp only [Function.comp]
    rw [Nat.succ_eq_add_one, walkB_succ P (t + 1) p]
theorem readB_snoc (l P : List Nat) (k p : Nat) : readB l P (k + 1) p = readB l P k p ++ [l.getD (walkB P (k + 1) p) 0] := by
  rw [readB_eq, readB_eq, List.range_succ, List.map_append]; rfl
end K
end Go.Proofs.Ytaeppgooenbfiaa
namespace Go.Proofs.Ytaeppgooenbfiaa
namespace K
set_option linter.unusedVariables false
set_option linter.unusedSimpArgs false

theorem stab_pairwise (l : List Nat) : ∀ B, (stab l B).Pairwise fun a b => l.getD a 0 < l.getD b 0 ∨ (l.getD a 0 = l.getD b 0 ∧ a < b)
  | 0 => by simp [stab]
  | B + 1 => by
    rw [stab_succ, List.pairwise_append]
    refine ⟨stab_pairwise l B, ?_, fun x hx y hy => ?_⟩
    · have h : (occ l B l.length).Pairwise (· < ·) := List.Pairwise.sublist List.filter_sublist List.pairwise_lt_range
      refine List.Pairwise.imp_of_mem (fun {a b} ha hb hlt => ?_) h
      rw [mem_occ] at ha hb
      exact .inr ⟨by omega, hlt⟩
    · rw [mem_stab] at hx
      rw [mem_occ] at hy
      exact .inl (by omega)
theorem stab_perm (l : List Nat) (hb : ∀ x ∈ l, x < 256) : (stab l 256).Perm (List.range l.length) := by
  refine (List.perm_ext_iff_of_nodup (stab_nodup l 256) List.nodup_range).2 fun a => ?_
  rw [mem_stab, List.mem_range]
  refine ⟨fun h => h.1, fun h => ⟨h, ?_⟩⟩
  rw [List.getD, List.getElem?_eq_getElem h]
  exact hb _ (List.getElem_mem h)

/-- The last column. -/
def lastC (n : Nat) (f : Nat → Nat) (L : List Nat) : List Nat := L.map fun i => f (i + n - 1)

/-- f tells the bytes of a text of n bytes, over and over. -/
structure Per (n : Nat) (f : Nat → Nat) : Prop where
  hf : ∀ i, f i < 256
  hp : ∀ i, f (i % n) = f i
  h0 : 0 < n
theorem per_add {n : Nat} {f : Nat → Nat} (H : Per n f) (i : Nat) : f (i + n) = f i := by rw [← H.hp (i + n), Nat.add_mod_right, H.hp]
theorem N_add_n {n : Nat} {f : Nat → Nat} (H : Per n f) (m i : Nat) : N f m (i + n) = N f m i := by rw [← N_per f n H.hp m (i + n), Nat.add_mod_right, N_per f n H.hp]
theorem R_front {n : Nat} {f : Nat → Nat} (H : Per n f) (i : Nat) : N f n i = f i * 256 ^ (n - 1) + N f (n - 1) (i + 1) := by
  have h := N_add f 1 i (n - 1)
  rw [N_one, show 1 + (n - 1) = n by have := H.h0; omega] at h
  exact h
theorem R_back {n : Nat} {f : Nat → Nat} (H : Per n f) (i : Nat) : N f n i = N f (n - 1) i * 256 + f (i + n - 1) := by
  have h := N_add f (n - 1) i 1
  rw [N_one, show n - 1 + 1 = n by have := H.h0; omega, Nat.pow_one, show i + (n - 1) = i + n - 1 by have := H.h0; omega] at h
  exact h
theorem R_low {n : Nat} {f : Nat → Nat} (H : Per n f) (i : Nat) : N f n i % 256 = f (i + n - 1) := by
  have := H.hf (i + n - 1)
  rw [R_back H i]; omega
theorem R_prev {n : Nat} {f : Nat → Nat} (H : Per n f) (i : Nat) : N f n (i + n - 1) = f (i + n - 1) * 256 ^ (n - 1) + N f n i / 256 := by
  have h := R_front H (i + n - 1)
  rw [show i + n - 1 + 1 = i + n by have := H.h0; omega, N_add_n H] at h
  have h2 := R_back H i
  have := H.hf (i + n - 1)
  have h3 : N f n i / 256 = N f (n - 1) i := by omega
  rw [h3]; exact h
theorem R_next {n : Nat} {f : Nat → Nat} (H : Per n f) (a b : Nat) (h : N f n a = N f n b) : N f n (a + 1) = N f n (b + 1) := by
  have ha := R_front H a
  have hb := R_front H b
  have la := N_lt f H.hf (n - 1) (a + 1)
  have lb := N_lt f H.hf (n - 1) (b + 1)
  have a2 := R_back H (a + 1)
  have b2 := R_back H (b + 1)
  rw [show a + 1 + n - 1 = a + n by have := H.h0; omega, per_add H] at a2
  rw [show b + 1 + n - 1 = b + n by have := H.h0; omega, per_add H] at b2
  rw [ha, hb] at h
  generalize 256 ^ (n - 1) = M at *
  have e1 : f a = f b := by
    rcases Nat.lt_trichotomy (f a) (f b) with h1 | h1 | h1
    · have := (lex_num (A := f a) (C := f b) la lb).2 (.inl h1); omega
    · exact h1
    · have := (lex_num (A := f b) (C := f a) lb la).2 (.inl h1); omega
  rw [e1] at h
  have e2 : N f (n - 1) (a + 1) = N f (n - 1) (b + 1) := by omega
  rw [a2, b2, e1, e2]
theorem R_next_t {n : Nat} {f : Nat → Nat} (H : Per n f) (a b : Nat) (h : N f n a = N f n b) : ∀ t, N f n (a + t) = N f n (b + t)
  | 0 => h
  | t + 1 => by
    have := R_next H _ _ (R_next_t H a b h t)
    rwa [Nat.add_assoc, Nat.add_assoc] at this

theorem turn_perm {n : Nat} (h0 : 0 < n) : ((List.range n).map fun i => (i + n - 1) % n).Perm (List.range n) := by
  refine (List.perm_ext_iff_of_nodup ?_ List.nodup_range).2 fun a => ?_
  · rw [List.Nodup, List.pairwise_map]
    refine List.Pairwise.imp_of_mem (fun {a b} ha hb hlt => ?_) List.pairwise_lt_range
    rw [List.mem_range] at ha hb
    intro he
    rcases Nat.eq_zero_or_pos a with h1 | h1
    · subst h1
      rw [Nat.mod_eq_of_lt (by omega)] at he
      rw [show b + n - 1 = b - 1 + n by omega, Nat.add_mod_right, Nat.mod_eq_of_lt (by omega)] at he
      omega
    · rw [show a + n - 1 = a - 1 + n by omega, show b + n - 1 = b - 1 + n by omega, Nat.add_mod_right, Nat.add_mod_right, Nat.mod_eq_of_lt (by omega), Nat.mod_eq_of_lt (by omega)] at he
      omega
  · simp only [List.mem_map, List.mem_range]
    constructor
    · rintro ⟨i, h1, rfl⟩; exact Nat.mod_lt _ h0
    · intro h
      by_cases h1 : a + 1 = n
      · exact ⟨0, h0, by rw [Nat.mod_eq_of_lt (by omega)]; omega⟩
      · exact ⟨a + 1, by omega, by rw [show a + 1 + n - 1 = a + n by omega, Nat.add_mod_right, Nat.mod_eq_of_lt h]⟩
theorem map_getD (L : List Nat) (g : Nat → Nat) : (List.range L.length).map (fun k => g (L.getD k 0)) = L.map g := by
  apply List.ext_getElem?
  intro i
  by_cases h : i < L.length
  · simp [List.getElem?_range h, List.getElem?_eq_getElem h]
  · rw [List.getElem?_eq_none (by simp; omega), List.getElem?_eq_none (by simp; omega)]
theorem sorted_R {n : Nat} {f : Nat → Nat} {L : List Nat} (hL : Ordered n f n L) : (L.map (N f n)).Pairwise (· ≤ ·) := by
  rw [List.pairwise_map]
  refine hL.asc.imp fun {a b} h => ?_
  unfold rotLt at h
  omega
/-- The rows, moved one on by the places. -/
theorem places_rows {n : Nat} {f : Nat → Nat} (H : Per n f) {L : List Nat} (hL : Ordered n f n L) (p : Nat) (hpn : p < n) : N f n (L.getD ((stab (lastC n f L) 256).getD p 0) 0) = N f n (L.getD p 0 + 1) := by
  have hlen := hL.len
  have h0 := H.h0
  have hlc : (lastC n f L).length = n := by simp [lastC, hlen]
  have hb : ∀ x ∈ lastC n f L, x < 256 := by
    intro x hx; simp only [lastC, List.mem_map] at hx; obtain ⟨i, -, rfl⟩ := hx; exact H.hf _
  have hP := stab_perm (lastC n f L) hb
  have hpw := stab_pairwise (lastC n f L) 256
  rw [hlc] at hP
  have hPl : (stab (lastC n f L) 256).length = n := by rw [hP.length_eq, List.length_range]
  have hget : ∀ a, a < n → (lastC n f L).getD a 0 = f (L.getD a 0 + n - 1) := by
    intro a ha
    simp only [lastC, List.getD, List.getElem?_map]
    rw [List.getElem?_eq_getElem (by omega)]; rfl
  generalize stab (lastC n f L) 256 = P at *
  have e : P.map (fun k => N f n (L.getD k 0 + n - 1)) = L.map (N f n) := by
    have hs1 : (P.map (fun k => N f n (L.getD k 0 + n - 1))).Pairwise (· ≤ ·) := by
      rw [List.pairwise_map]
      refine List.Pairwise.imp_of_mem (fun {a b} ha hb hlt => ?_) hpw
      have ha' : a < n := List.mem_range.1 (hP.mem_iff.1 ha)
      have hb' : b < n := List.mem_range.1 (hP.mem_iff.1 hb)
      rw [hget a ha', hget b hb'] at hlt
      rw [R_prev H, R_prev H]
      have hM : ∀ i, N f n i / 256 < 256 ^ (n - 1) := by
        intro i
        have h1 := N_lt f H.hf n i
        have h2 : 256 ^ n = 256 ^ (n - 1) * 256 := by rw [← Nat.pow_succ, Nat.succ_eq_add_one, show n - 1 + 1 = n by have := H.h0; omega]
        rw [h2] at h1
        exact Nat.div_lt_of_lt_mul (by rw [Nat.mul_comm]; exact h1)
      rcases hlt with hlt | ⟨he, hlt⟩
      · exact Nat.le_of_lt ((lex_num (hM _) (hM _)).2 (.inl hlt))
      · rw [he]
        have hs := List.pairwise_iff_getElem.1 (sorted_R hL) a b (by simp [hlen, ha']) (by simp [hlen, hb']) hlt
        simp only [List.getElem_map] at hs
        have ga : L.getD a 0 = L[a]'(by omega) := by rw [List.getD, List.getElem?_eq_getElem (by omega)]; rfl
        have gb : L.getD b 0 = L[b]'(by omega) := by rw [List.getD, List.getElem?_eq_getElem (by omega)]; rfl
        rw [ga, gb]
        have := Nat.div_le_div_right (c := 256) hs
        omega
    refine List.Perm.eq_of_pairwise (fun a b _ _ h1 h2 => Nat.le_antisymm h1 h2) hs1 (sorted_R hL) ?_
    have s1 : (P.map (fun k => N f n (L.getD k 0 + n - 1))).Perm ((List.range n).map (fun k => N f n (L.getD k 0 + n - 1))) := hP.map _
    have s2 : (List.range n).map (fun k => N f n (L.getD k 0 + n - 1)) = L.map (fun i => N f n (i + n - 1)) := by
      have := map_getD L (fun i => N f n (i + n - 1))
      rwa [hlen] at this
    have s3 : (L.map (fun i => N f n (i + n - 1))).Perm ((List.range n).map (fun i => N f n (i + n - 1))) := hL.perm.map _
    have s4 : (List.range n).map (fun i => N f n (i + n - 1)) = ((List.range n).map fun i => (i + n - 1) % n).map (N f n) := by
      rw [List.map_map]
      refine List.map_congr_left fun i _ => ?_
      simp only [Function.comp]
      rw [N_per f n H.hp]
    have s5 := (turn_perm H.h0).map (N f n)
    rw [s2] at s1
    rw [s4] at s3
    exact ((s1.trans s3).trans s5).trans (hL.perm.map _).symm
  have hk := congrArg (fun l => l[p]?) e
  simp only [List.getElem?_map] at hk
  rw [List.getElem?_eq_getElem (by omega), List.getElem?_eq_getElem (by omega)] at hk
  simp only [Option.map_some, Option.some.injEq] at hk
  have g1 : P.getD p 0 = P[p]'(by omega) := by rw [List.getD, List.getElem?_eq_getElem (by omega)]; rfl
  have g2 : L.getD p 0 = L[p]'(by omega) := by rw [List.getD, List.getElem?_eq_getElem (by omega)]; rfl
  rw [g1, g2]
  have := R_next H _ _ hk
  rw [show L.getD (P[p]'(by omega)) 0 + n - 1 + 1 = L.getD (P[p]'(by omega)) 0 + n by omega, N_add_n H] at this
  exact this
theorem read_rows {n : Nat} {f : Nat → Nat} (H : Per n f) {L : List Nat} (hL : Ordered n f n L) (row : Nat) (hrow : row < n) : readB (lastC n f L) (stab (lastC n f L) 256) n row = (List.range n).map fun t => f (L.getD row 0 + t) := by
  have hlen := hL.len
  have h0 := H.h0
  have hlc : (lastC n f L).length = n := by simp [lastC, hlen]
  have hb : ∀ x ∈ lastC n f L, x < 256 := by
    intro x hx; simp only [lastC, List.mem_map] at hx; obtain ⟨i, -, rfl⟩ := hx; exact H.hf _
  have hP := stab_perm (lastC n f L) hb
  rw [hlc] at hP
  have hPl : (stab (lastC n f L) 256).length = n := by rw [hP.length_eq, List.length_range]
  have hPlt : ∀ p, p < n → (stab (lastC n f L) 256).getD p 0 < n := by
    intro p hpn
    rw [List.getD, List.getElem?_eq_getElem (by omega)]
    exact List.mem_range.1 (hP.mem_iff.1 (List.getElem_mem _))
  have hrows := fun p hpn => places_rows H hL p hpn
  have hget : ∀ a, a < n → (lastC n f L).getD a 0 = f (L.getD a 0 + n - 1) := by
    intro a ha
    simp only [lastC, List.getD, List.getElem?_map]
    rw [List.getElem?_eq_getElem (by omega)]; rfl
  rw [readB_eq]
  generalize stab (lastC n f L) 256 = P at *
  have hw : ∀ t, walkB P t row < n ∧ N f n (L.getD (walkB P t row) 0) = N f n (L.getD row 0 + t) := by
    intro t
    induction t with
    | zero => exact ⟨hrow, rfl⟩
    | succ t ih =>
      refine ⟨hPlt _ ih.1, ?_⟩
      show N f n (L.getD (P.getD (walkB P t row) 0) 0) = _
      rw [hrows _ ih.1]
      have := R_next H _ _ ih.2
      rwa [Nat.add_assoc] at this
  refine List.map_congr_left fun t _ => ?_
  have h := hw (t + 1)
  rw [hget _ h.1, ← R_low H, h.2, R_low H, show L.getD row 0 + (t + 1) + n - 1 = L.getD row 0 + t + n by omega, per_add H]
end K
end Go.Proofs.Ytaeppgooenbfiaa
namespace Go.Proofs.Ytaeppgooenbfiaa
namespace K
set_option linter.unusedVariables false
set_option linter.unusedSimpArgs false

/-- The counts of the first k. -/
def cntA (l : List Nat) (k : Nat) : List Nat := (List.range 256).map fun b => cEq l k b
/-- Below b: how many are lower; from b on: the counts. -/
def sumA (l : List Nat) (b : Nat) : List Nat := (List.range 256).map fun c => if c < b then cLt l c else l.count c
/-- Where the next of each stands. -/
def nextA (l : List Nat) (k : Nat) : List Nat := (List.range 256).map fun b => cLt l b + cEq l k b
theorem range_map_get (f : Nat → Nat) (n b : Nat) (h : b < n) : ((List.range n).map f)[b]? = some (f b) := by simp [List.getElem?_range h]
theorem range_map_set (f g : Nat → Nat) (n b x : Nat) (h : b < n) (hb : g b = x) (ho : ∀ c, c ≠ b → g c = f c) : ((List.range n).map f).set b x = (List.range n).map g := by
  apply List.ext_getElem?
  intro i
  rw [List.getElem?_set]
  simp only [List.length_map, List.length_range]
  by_cases hi : b = i
  · subst hi
    rw [if_pos rfl, if_pos h, range_map_get _ _ _ h, hb]
  · rw [if_neg hi]
    by_cases hl : i < n
    · rw [range_map_get _ _ _ hl, range_map_get _ _ _ hl, ho i (fun h => hi h.symm)]
    · rw [List.getElem?_eq_none (by simp; omega), List.getElem?_eq_none (by simp; omega)]
theorem cntA_length (l : List Nat) (k : Nat) : (cntA l k).length = 256 := by simp [cntA]
theorem sumA_length (l : List Nat) (k : Nat) : (sumA l k).length = 256 := by simp [sumA]
theorem nextA_length (l : List Nat) (k : Nat) : (nextA l k).length = 256 := by simp [nextA]
theorem cntA_zero (l : List Nat) : cntA l 0 = List.replicate 256 0 := by
  unfold cntA
  rw [show (fun b => cEq l 0 b) = fun _ => 0 from funext fun b => cEq_zero l b, List.map_const', List.length_range]
theorem cntA_all (l : List Nat) : cntA l l.length = sumA l 0 := by
  unfold cntA sumA
  refine List.map_congr_left fun b _ => ?_
  rw [cEq_all, if_neg (by omega)]
theorem cntA_step (l : List Nat) (k x : Nat) (h : l[k]? = some x) (hx : x < 256) : (cntA l k).set x (cEq l k x + 1) = cntA l (k + 1) := by
  refine range_map_set _ _ _ _ _ hx ?_ fun c hc => ?_
  · show cEq l (k + 1) x = _
    rw [cEq_succ l k x x h, if_pos rfl]
  · show cEq l (k + 1) c = cEq l k c
    rw [cEq_succ l k c x h, if_neg (fun h => hc h.symm)]; rfl
theorem sumA_step (l : List Nat) (b : Nat) (hb : b < 256) : (sumA l b).set b (cLt l b) = sumA l (b + 1) := by
  refine range_map_set _ _ _ _ _ hb ?_ fun c hc => ?_
  · show (if b < b + 1 then cLt l b else _) = _
    rw [if_pos (by omega)]
  · show (if c < b + 1 then cLt l c else _) = if c < b then cLt l c else _
    by_cases h : c < b
    · rw [if_pos h, if_pos (by omega)]
    · rw [if_neg h, if_neg (by omega)]
theorem sumA_all (l : List Nat) : sumA l 256 = nextA l 0 := by
  unfold sumA nextA
  refine List.map_congr_left fun b hb => ?_
  rw [List.mem_range] at hb
  rw [cEq_zero, if_pos hb]; rfl
theorem nextA_step (l : List Nat) (k x : Nat) (h : l[k]? = some x) (hx : x < 256) : (nextA l k).set x (cLt l x + cEq l k x + 1) = nextA l (k + 1) := by
  refine range_map_set _ _ _ _ _ hx ?_ fun c hc => ?_
  · show cLt l x + cEq l (k + 1) x = _
    rw [cEq_succ l k x x h, if_pos rfl]; omega
  · show cLt l c + cEq l (k + 1) c = cLt l c + cEq l k c
    rw [cEq_succ l k c x h, if_neg (fun h => hc h.symm)]; rfl
/-- The first i have their places. -/
def Placed (l : List Nat) (i : Nat) (P : List Nat) : Prop := P.length = l.length ∧ ∀ j, j < i → P[pos l j]? = some j
theorem Placed.step {l : List Nat} {i : Nat} {P : List Nat} (h : Placed l i P) (hi : i < l.length) : Placed l (i + 1) (P.set (pos l i) i) := by
  refine ⟨by rw [List.length_set, h.1], fun j hj => ?_⟩
  rw [List.getElem?_set]
  by_cases he : pos l i = pos l j
  · have := pos_inj l i j hi (by omega) he
    subst this
    rw [if_pos rfl, if_pos (by rw [h.1]; exact pos_lt l i hi)]
  · rw [if_neg he]
    have : j ≠ i := fun h => he (by rw [h])
    exact h.2 j (by omega)
theorem Placed.done {l P : List Nat} (hb : ∀ x ∈ l, x < 256) (h : Placed l l.length P) : P = stab l 256 := places_stab l P hb h.1 h.2
end K
end Go.Proofs.Ytaeppgooenbfiaa
