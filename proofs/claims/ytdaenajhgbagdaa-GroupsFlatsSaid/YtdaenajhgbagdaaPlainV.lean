/-
  The order of a text's rotations, plainly: by numbers of their first bytes, twice as many each time.
-/
import Derived.WalkKit
namespace Go.Proofs.Ytdaenajhgbagdaa
namespace K
set_option linter.unusedVariables false

/-- The first m bytes from place i on, as a number. -/
def N (f : Nat → Nat) : Nat → Nat → Nat
  | 0, _ => 0
  | m + 1, i => N f m i * 256 + f (i + m)
theorem N_add (f : Nat → Nat) (m i : Nat) : ∀ k, N f (m + k) i = N f m i * 256 ^ k + N f k (i + m) := by
  intro k
  induction k with
  | zero => simp [N]
  | succ k ih =>
    rw [show m + (k + 1) = (m + k) + 1 by omega, N, ih, N, Nat.pow_succ, Nat.add_mul, Nat.mul_assoc, Nat.add_assoc i m k]
    omega
theorem N_lt (f : Nat → Nat) (hf : ∀ i, f i < 256) (m i : Nat) : N f m i < 256 ^ m := by
  induction m with
  | zero => simp [N]
  | succ m ih =>
    rw [N, Nat.pow_succ]
    have := hf (i + m)
    have h2 : (N f m i + 1) * 256 ≤ 256 ^ m * 256 := Nat.mul_le_mul_right _ ih
    omega
theorem N_per (f : Nat → Nat) (n : Nat) (hp : ∀ i, f (i % n) = f i) (m i : Nat) : N f m (i % n) = N f m i := by
  induction m with
  | zero => rfl
  | succ m ih => rw [N, N, ih, ← hp (i % n + m), Nat.mod_add_mod, hp]
theorem N_one (f : Nat → Nat) (i : Nat) : N f 1 i = f i := by simp [N]
theorem lex_num {A B C D M : Nat} (hB : B < M) (hD : D < M) : A * M + B < C * M + D ↔ A < C ∨ (A = C ∧ B < D) := by
  rcases Nat.lt_trichotomy A C with h | h | h
  · have h2 : (A + 1) * M ≤ C * M := Nat.mul_le_mul_right _ h
    rw [Nat.add_mul, Nat.one_mul] at h2
    constructor
    · intro _; exact .inl h
    · intro _; omega
  · subst h
    constructor
    · intro _; exact .inr ⟨rfl, by omega⟩
    · intro _; omega
  · have h2 : (C + 1) * M ≤ A * M := Nat.mul_le_mul_right _ h
    rw [Nat.add_mul, Nat.one_mul] at h2
    constructor
    · intro _; omega
    · intro _; omega

/-- A rotation's ranks, by its first bytes and by those behind. -/
def key1 (rank : List Nat) (i : Nat) : Nat := rank.getD i 0
def key2 (n : Nat) (rank : List Nat) (by_ i : Nat) : Nat := rank.getD ((i + by_) % n) 0
def kLt (n : Nat) (rank : List Nat) (by_ i j : Nat) : Prop := key1 rank i < key1 rank j ∨ (key1 rank i = key1 rank j ∧ key2 n rank by_ i < key2 n rank by_ j)
/-- compare's answer. -/
def cmpR (n : Nat) (rank : List Nat) (by_ i j : Nat) : Int :=
  if key1 rank i ≠ key1 rank j then (key1 rank i : Int) - (key1 rank j : Int)
  else if key2 n rank by_ i ≠ key2 n rank by_ j then (key2 n rank by_ i : Int) - (key2 n rank by_ j : Int)
  else (i : Int) - (j : Int)
theorem cmpR_neg (n : Nat) (rank : List Nat) (by_ i j : Nat) : cmpR n rank by_ i j < 0 ↔ kLt n rank by_ i j ∨ (¬ kLt n rank by_ j i ∧ i < j) := by
  unfold cmpR kLt
  split
  · omega
  · split
    · omega
    · omega
/-- The ranks order the rotations by their first m bytes. -/
def RankBy (n : Nat) (f : Nat → Nat) (rank : List Nat) (m : Nat) : Prop := ∀ i j, i < n → j < n → (key1 rank i < key1 rank j ↔ N f m i < N f m j)
def KeyBy (n : Nat) (f : Nat → Nat) (rank : List Nat) (by_ m : Nat) : Prop := ∀ i j, i < n → j < n → (kLt n rank by_ i j ↔ N f m i < N f m j)
theorem key_twice (n : Nat) (f : Nat → Nat) (hf : ∀ i, f i < 256) (hp : ∀ i, f (i % n) = f i) (rank : List Nat) (m : Nat) (h : RankBy n f rank m) : KeyBy n f rank m (m + m) := by
  intro i j hi hj
  have hn : 0 < n := by omega
  rw [N_add, N_add, lex_num (N_lt f hf m _) (N_lt f hf m _)]
  have h1 := h i j hi hj
  have h2 := h j i hj hi
  have h3 := h ((i + m) % n) ((j + m) % n) (Nat.mod_lt _ hn) (Nat.mod_lt _ hn)
  rw [N_per f n hp, N_per f n hp] at h3
  unfold kLt key2
  unfold key1 at h1 h2 h3 ⊢
  constructor
  · rintro (h | ⟨h, h'⟩)
    · exact .inl (h1.1 h)
    · exact .inr ⟨by omega, h3.1 h'⟩
  · rintro (h | ⟨h, h'⟩)
    · exact .inl (h1.2 h)
    · exact .inr ⟨by omega, h3.2 h'⟩
theorem key_once (n : Nat) (f : Nat → Nat) (rank : List Nat) (h : RankBy n f rank 1) : KeyBy n f rank 0 1 := by
  intro i j hi hj
  have := h i j hi hj
  unfold kLt key2
  unfold key1 at this ⊢
  rw [Nat.add_zero, Nat.add_zero, Nat.mod_eq_of_lt hi, Nat.mod_eq_of_lt hj]
  omega

/-- Which of two rotations stands ahead, by m bytes. -/
def rotLt (f : Nat → Nat) (m i j : Nat) : Prop := N f m i < N f m j ∨ (N f m i = N f m j ∧ i < j)
theorem cmpR_rot (n : Nat) (f : Nat → Nat) (rank : List Nat) (by_ m : Nat) (h : KeyBy n f rank by_ m) (i j : Nat) (hi : i < n) (hj : j < n) : cmpR n rank by_ i j < 0 ↔ rotLt f m i j := by
  rw [cmpR_neg, h i j hi hj, h j i hj hi]
  unfold rotLt
  omega
/-- The order by m bytes: each once, none ahead of the one in front of it. -/
structure Ordered (n : Nat) (f : Nat → Nat) (m : Nat) (L : List Nat) : Prop where
  perm : L.Perm (List.range n)
  asc : L.Pairwise (rotLt f m)
theorem Ordered.one {n : Nat} {f : Nat → Nat} {m : Nat} {L L' : List Nat} (h : Ordered n f m L) (h' : Ordered n f m L') : L = L' :=
  List.Perm.eq_of_pairwise (fun a b _ _ h1 h2 => by unfold rotLt at h1 h2; omega) h.asc h'.asc (h.perm.trans h'.perm.symm)
theorem Ordered.len {n : Nat} {f : Nat → Nat} {m : Nat} {L : List Nat} (h : Ordered n f m L) : L.length = n := by rw [h.perm.length_eq, List.length_range]
theorem Ordered.lt {n : Nat} {f : Nat → Nat} {m : Nat} {L : List Nat} (h : Ordered n f m L) : ∀ x ∈ L, x < n := fun x hx => List.mem_range.1 (h.perm.mem_iff.1 hx)
theorem Ordered.nodup {n : Nat} {f : Nat → Nat} {m : Nat} {L : List Nat} (h : Ordered n f m L) : L.Nodup := h.perm.nodup_iff.2 List.nodup_range
/-- Of as many bytes as there are, or more, it is one order. -/
theorem N_more (f : Nat → Nat) (n : Nat) (hf : ∀ i, f i < 256) (hp : ∀ i, f (i % n) = f i) (h0 : 0 < n) (m i j : Nat) (h : n ≤ m) : N f m i < N f m j ↔ N f n i < N f n j := by
  have same : ∀ k, N f k i = N f k j → ∀ t, t < k → f (i + t) = f (j + t) := by
    intro k
    induction k with
    | zero => intro _ t ht; omega
    | succ k ih =>
      intro he t ht
      rw [N, N] at he
      have h1 := hf (i + k)
      have h2 := hf (j + k)
      rcases Nat.lt_or_ge t k with h | h
      · exact ih (by omega) t h
      · obtain rfl : t = k := by omega
        omega
  obtain ⟨d, rfl⟩ : ∃ d, m = n + d := ⟨m - n, by omega⟩
  rw [N_add, N_add, lex_num (N_lt f hf d _) (N_lt f hf d _)]
  constructor
  · rintro (h | ⟨h, h'⟩)
    · exact h
    · exfalso
      have hs := same n h
      have ht : ∀ t, f (i + t) = f (j + t) := by
        intro t
        have e1 := hp (i + t % n)
        have e2 := hp (j + t % n)
        have m1 : (i + t % n) % n = (i + t) % n := by rw [Nat.add_mod, Nat.mod_mod, ← Nat.add_mod]
        have m2 : (j + t % n) % n = (j + t) % n := by rw [Nat.add_mod, Nat.mod_mod, ← Nat.add_mod]
        have := hs (t % n) (Nat.mod_lt _ h0)
        rw [← hp (i + t), ← m1, e1, this, ← e2, m2, hp]
      have hN : ∀ k, N f k (i + n) = N f k (j + n) := by
        intro k
        induction k with
        | zero => rfl
        | succ k ih => rw [N, N, ih, Nat.add_assoc, Nat.add_assoc, ht]
      rw [hN] at h'
      omega
  · intro h; exact .inl h
end K
end Go.Proofs.Ytdaenajhgbagdaa
