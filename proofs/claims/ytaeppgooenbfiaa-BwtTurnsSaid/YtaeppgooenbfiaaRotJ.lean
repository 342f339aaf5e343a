/-
  RotateTwice's plain laws: the period of a text twice, rotations that are one text.
-/
import Derived.Test.YtaeppgooenbfiaaRotG
import Derived.Test.YtaeppgooenbfiaaRotI
import Derived.Test.YtaeppgooenbfiaaPlainY
namespace Go.Proofs.Ytaeppgooenbfiaa
set_option linter.unusedVariables false

theorem per_some (l : List UInt8) : ∀ r, 1 ≤ r → r ≤ l.length → l.drop r ++ l.take r = l → ∃ q, 1 ≤ q ∧ q ≤ r ∧ isPer l q := by
  intro r
  induction r using Nat.strongRecOn with
  | ind r ih =>
    intro h1 h2 h3
    by_cases h : ∃ q, 1 ≤ q ∧ q < r ∧ l.drop q ++ l.take q = l
    · obtain ⟨q, a, b, c⟩ := h
      obtain ⟨q', a', b', c'⟩ := ih q b a (by omega) c
      exact ⟨q', a', by omega, c'⟩
    · exact ⟨r, h1, Nat.le_refl _, K.least_div l r h1 h2 h3 (fun q a b c => h ⟨q, a, b, c⟩), h3⟩
theorem per_pos (l : List UInt8) (p : Nat) (h0 : 0 < l.length) (h : PerP l p) : 1 ≤ p ∧ p ≤ l.length ∧ isPer l p ∧ ∀ q, 1 ≤ q → q < p → ¬ isPer l q := by
  rcases h with h | ⟨-, h⟩
  · exact h
  · exact absurd ⟨Nat.mod_self _, by rw [List.drop_length, List.take_length]; rfl⟩ (h l.length h0 (Nat.le_refl _))
theorem per_twice (l : List UInt8) (p r : Nat) (h0 : 0 < l.length) (h : PerP l p) (h2 : PerP (l ++ l) r) : r = p := by
  obtain ⟨a, b, c, d⟩ := per_pos l p h0 h
  obtain ⟨a2, b2, c2, d2⟩ := per_pos (l ++ l) r (by rw [List.length_append]; omega) h2
  have hp : isPer (l ++ l) p := ⟨by rw [List.length_append, Nat.add_mod, c.1]; simp, (K.rot_twice l p b).2 c.2⟩
  rcases Nat.lt_trichotomy r p with h | h | h
  · obtain ⟨q, h1, h2, h3⟩ := per_some l r a2 (by omega) ((K.rot_twice l r (by omega)).1 c2.2)
    exact absurd h3 (d q h1 (by omega))
  · exact h
  · exact absurd hp (d2 p a h)
theorem N_shift (f : Nat → Nat) (p : Nat) (h : ∀ i, f (i + p) = f i) : ∀ m i, K.N f m (i + p) = K.N f m i := by
  intro m
  induction m with
  | zero => intro i; rfl
  | succ m ih => intro i; rw [K.N, K.N, ih, show i + p + m = (i + m) + p by omega, h]
theorem sgn_zero (f : Nat → Nat) (n i j : Nat) : sgnR f n i j = 0 ↔ K.N f n i = K.N f n j := by
  unfold sgnR
  split
  · constructor
    · intro h; cases h
    · omega
  · split
    · constructor
      · intro h; cases h
      · omega
    · constructor <;> omega
theorem bytes_same (f : Nat → Nat) (hf : ∀ i, f i < 256) (i j : Nat) : ∀ k, K.N f k i = K.N f k j → ∀ t, t < k → f (i + t) = f (j + t) := by
  intro k
  induction k with
  | zero => intro _ t ht; omega
  | succ k ih =>
    intro he t ht
    rw [K.N, K.N] at he
    have h1 := hf (i + k)
    have h2 := hf (j + k)
    rcases Nat.lt_or_ge t k with h | h
    · exact ih (by omega) t h
    · obtain rfl : t = k := by omega
      omega
theorem sgn_per (l : List UInt8) (p i : Nat) (hp : p ≤ l.length) (h : isPer l p) : sgnR (K.fS l) l.length i ((i + p) % l.length) = 0 := by
  have h1 := (K.rot_iff l p hp).1 h.2
  rw [sgn_zero, K.N_per (K.fS l) l.length (K.fS_per l), N_shift (K.fS l) p (fun i => congrArg UInt8.toNat (h1 i))]
theorem sgn_one (l : List UInt8) (i : Nat) (h0 : 0 < l.length) : sgnR (K.fS l) l.length i ((i + 1) % l.length) = 0 ↔ l.drop 1 ++ l.take 1 = l := by
  rw [sgn_zero, K.N_per (K.fS l) l.length (K.fS_per l), K.rot_iff l 1 h0]
  constructor
  · intro h q
    have hs := bytes_same (K.fS l) (K.fS_lt l) i (i + 1) l.length h
    have hr := Nat.mod_lt i h0
    obtain ⟨t, ht⟩ : ∃ t, (q + l.length - i % l.length) % l.length = t := ⟨_, rfl⟩
    have htl : t < l.length := by rw [← ht]; exact Nat.mod_lt _ h0
    have hm : (i + t) % l.length = q % l.length := by
      rw [← ht, Nat.add_mod, Nat.mod_mod]
      have := Nat.add_mod_mod (i % l.length) (q + l.length - i % l.length) l.length
      rw [this, show i % l.length + (q + l.length - i % l.length) = q + l.length by omega, Nat.add_mod_right]
    have h1 := hs t htl
    have e1 : K.fS l (i + t) = K.fS l q := by rw [← K.fS_per l (i + t), hm, K.fS_per]
    have e2 : K.fS l (i + 1 + t) = K.fS l (q + 1) := by
      rw [← K.fS_per l (i + 1 + t), show i + 1 + t = (i + t) + 1 by omega, Nat.add_mod, hm, ← Nat.add_mod, K.fS_per]
    rw [e1, e2] at h1
    exact (UInt8.toNat_inj.1 h1).symm
  · intro h
    rw [N_shift (K.fS l) 1 (fun i => congrArg UInt8.toNat (h i))]
end Go.Proofs.Ytaeppgooenbfiaa
