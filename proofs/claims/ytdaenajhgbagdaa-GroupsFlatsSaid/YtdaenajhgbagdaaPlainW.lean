/-
  Ranks made anew out of an order, plainly.
-/
import Derived.Test.YtdaenajhgbagdaaPlainV
namespace Go.Proofs.Ytdaenajhgbagdaa
namespace K
set_option linter.unusedVariables false

def diff (n : Nat) (rank : List Nat) (by_ i j : Nat) : Prop := key1 rank i ≠ key1 rank j ∨ key2 n rank by_ i ≠ key2 n rank by_ j
instance (n : Nat) (rank : List Nat) (by_ i j : Nat) : Decidable (diff n rank by_ i j) := by unfold diff; infer_instance
instance (f : Nat → Nat) (m i j : Nat) : Decidable (rotLt f m i j) := by unfold rotLt; infer_instance
def step1 (n : Nat) (rank : List Nat) (by_ i j : Nat) : Nat := if diff n rank by_ i j then 1 else 0
/-- Behind the k-th round. -/
def again (n : Nat) (rank : List Nat) (by_ : Nat) (L : List Nat) : Nat → List Nat
  | 0 => List.replicate n 0
  | k + 1 => (again n rank by_ L k).set (L.getD (k + 1) 0) ((again n rank by_ L k).getD (L.getD k 0) 0 + step1 n rank by_ (L.getD k 0) (L.getD (k + 1) 0))
theorem again_length (n : Nat) (rank : List Nat) (by_ : Nat) (L : List Nat) (k : Nat) : (again n rank by_ L k).length = n := by
  induction k with
  | zero => simp [again]
  | succ k ih => rw [again, List.length_set, ih]
theorem again_le (n : Nat) (rank : List Nat) (by_ : Nat) (L : List Nat) (k : Nat) : ∀ x ∈ again n rank by_ L k, x ≤ k := by
  induction k with
  | zero => intro x hx; simp [again] at hx; omega
  | succ k ih =>
    intro x hx
    rw [again] at hx
    rcases List.mem_or_eq_of_mem_set hx with h | h
    · have := ih x h; omega
    · have h1 : (again n rank by_ L k).getD (L.getD k 0) 0 ≤ k := by
        rw [List.getD]
        cases hg : (again n rank by_ L k)[L.getD k 0]? with
        | none => simp
        | some y => exact ih y (List.mem_of_getElem? hg)
      have h2 : step1 n rank by_ (L.getD k 0) (L.getD (k + 1) 0) ≤ 1 := by unfold step1; split <;> omega
      omega
def cnt (n : Nat) (rank : List Nat) (by_ : Nat) (L : List Nat) : Nat → Nat
  | 0 => 0
  | k + 1 => cnt n rank by_ L k + step1 n rank by_ (L.getD k 0) (L.getD (k + 1) 0)
theorem nodup_getD {L : List Nat} (h : L.Nodup) (i j : Nat) (hi : i < L.length) (hj : j < L.length) (he : L.getD i 0 = L.getD j 0) : i = j := by
  rw [List.getD, List.getD, List.getElem?_eq_getElem hi, List.getElem?_eq_getElem hj] at he
  have he : L[i] = L[j] := he
  have hp := List.pairwise_iff_getElem.1 (show L.Pairwise (· ≠ ·) from h)
  rcases Nat.lt_trichotomy i j with h1 | h1 | h1
  · exact absurd he (hp i j hi hj h1)
  · exact h1
  · exact absurd he.symm (hp j i hj hi h1)
theorem getD_lt {L : List Nat} {n : Nat} (h : ∀ x ∈ L, x < n) (i : Nat) (hi : i < L.length) : L.getD i 0 < n := by
  rw [List.getD, List.getElem?_eq_getElem hi]; exact h _ (List.getElem_mem hi)
theorem again_get (n : Nat) (rank : List Nat) (by_ : Nat) (L : List Nat) (hL : L.length = n) (hlt : ∀ x ∈ L, x < n) (hnd : L.Nodup) (k : Nat) (hk : k < n) : ∀ j, j ≤ k → (again n rank by_ L k).getD (L.getD j 0) 0 = cnt n rank by_ L j := by
  induction k with
  | zero =>
    intro j hj
    obtain rfl : j = 0 := by omega
    rw [again, cnt, List.getD, List.getElem?_replicate]
    split <;> rfl
  | succ k ih =>
    intro j hj
    rw [again, List.getD, List.getElem?_set]
    have hl : L.getD (k + 1) 0 < (again n rank by_ L k).length := by rw [again_length]; exact getD_lt hlt _ (by omega)
    by_cases he : j = k + 1
    · subst he
      rw [if_pos rfl, if_pos hl, cnt, ih (by omega) k (Nat.le_refl _)]
      rfl
    · rw [if_neg (fun h => he (nodup_getD hnd _ _ (by omega) (by omega) h).symm)]
      exact ih (by omega) j (by omega)
theorem again_rank (n : Nat) (f : Nat → Nat) (rank : List Nat) (by_ m : Nat) (h : KeyBy n f rank by_ m) (L : List Nat) (hO : Ordered n f m L) : RankBy n f (again n rank by_ L (n - 1)) m := by
  have hlen := hO.len
  have hlt := hO.lt
  have hnd := hO.nodup
  have hstep : ∀ k, k + 1 < n → N f m (L.getD k 0) ≤ N f m (L.getD (k + 1) 0) ∧ step1 n rank by_ (L.getD k 0) (L.getD (k + 1) 0) = if N f m (L.getD k 0) < N f m (L.getD (k + 1) 0) then 1 else 0 := by
    intro k hk
    have h1 : rotLt f m (L.getD k 0) (L.getD (k + 1) 0) := by
      have := (List.pairwise_iff_getElem.1 hO.asc) k (k + 1) (by omega) (by omega) (by omega)
      rw [List.getD, List.getD, List.getElem?_eq_getElem (by omega), List.getElem?_eq_getElem (by omega)]
      exact this
    have a1 := h (L.getD k 0) (L.getD (k + 1) 0) (getD_lt hlt _ (by omega)) (getD_lt hlt _ (by omega))
    have a2 := h (L.getD (k + 1) 0) (L.getD k 0) (getD_lt hlt _ (by omega)) (getD_lt hlt _ (by omega))
    unfold rotLt at h1
    unfold kLt at a1 a2
    refine ⟨by omega, ?_⟩
    unfold step1
    by_cases hd : diff n rank by_ (L.getD k 0) (L.getD (k + 1) 0)
    · rw [if_pos hd]
      unfold diff at hd
      rw [if_pos (by omega)]
    · rw [if_neg hd]
      unfold diff at hd
      rw [if_neg (by omega)]
  have hmono : ∀ k, k < n → ∀ j, j ≤ k → cnt n rank by_ L j ≤ cnt n rank by_ L k ∧ N f m (L.getD j 0) ≤ N f m (L.getD k 0) ∧ (cnt n rank by_ L j = cnt n rank by_ L k ↔ N f m (L.getD j 0) = N f m (L.getD k 0)) := by
    intro k
    induction k with
    | zero => intro _ j hj; obtain rfl : j = 0 := by omega
              exact ⟨Nat.le_refl _, Nat.le_refl _, by simp⟩
    | succ k ih =>
      intro hk j hj
      by_cases he : j = k + 1
      · subst he; exact ⟨Nat.le_refl _, Nat.le_refl _, by simp⟩
      · have h1 := ih (by omega) j (by omega)
        have h2 := hstep k hk
        rw [cnt, h2.2]
        split <;> omega
  intro i j hi hj
  have hget : ∀ i, i < n → ∃ k, k < n ∧ L.getD k 0 = i := by
    intro i hi
    obtain ⟨k, hk, he⟩ := List.mem_iff_getElem.1 (hO.perm.mem_iff.2 (List.mem_range.2 hi))
    exact ⟨k, by omega, by rw [List.getD, List.getElem?_eq_getElem hk]; exact he⟩
  obtain ⟨k, hk, rfl⟩ := hget i hi
  obtain ⟨l, hl, rfl⟩ := hget j hj
  unfold key1
  rw [again_get n rank by_ L hlen hlt hnd (n - 1) (by omega) k (by omega), again_get n rank by_ L hlen hlt hnd (n - 1) (by omega) l (by omega)]
  rcases Nat.le_total k l with h | h
  · have := hmono l hl k h; omega
  · have := hmono k hk l h; omega

/-- A text's byte, as a number, round and round. -/
def fS (s : List UInt8) (i : Nat) : Nat := (s.getD (i % s.length) 0).toNat
theorem fS_lt (s : List UInt8) (i : Nat) : fS s i < 256 := by unfold fS; exact UInt8.toNat_lt _
theorem fS_per (s : List UInt8) (i : Nat) : fS s (i % s.length) = fS s i := by unfold fS; rw [Nat.mod_mod]
def firstR (s : List UInt8) : List Nat := s.map UInt8.toNat
theorem first_rank (s : List UInt8) : RankBy s.length (fS s) (firstR s) 1 := by
  intro i j hi hj
  rw [N_one, N_one]
  unfold key1 firstR fS
  rw [Nat.mod_eq_of_lt hi, Nat.mod_eq_of_lt hj, List.getD, List.getD, List.getD, List.getD, List.getElem?_map, List.getElem?_map, List.getElem?_eq_getElem hi, List.getElem?_eq_getElem hj]
  rfl
theorem Ordered.more {s : List UInt8} {m : Nat} {L : List Nat} (h0 : 0 < s.length) (hm : s.length ≤ m) (h : Ordered s.length (fS s) m L) : Ordered s.length (fS s) s.length L := by
  refine ⟨h.perm, h.asc.imp ?_⟩
  intro a b hab
  have h1 := N_more (fS s) s.length (fS_lt s) (fS_per s) h0 m a b hm
  have h2 := N_more (fS s) s.length (fS_lt s) (fS_per s) h0 m b a hm
  unfold rotLt at hab ⊢
  omega
end K
end Go.Proofs.Ytdaenajhgbagdaa
