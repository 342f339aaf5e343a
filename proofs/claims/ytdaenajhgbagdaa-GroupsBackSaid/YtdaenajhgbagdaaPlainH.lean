/-
  Picks read out of bits, plainly: an order may have a tail that is never reached; how great picks and places are.
-/
import Derived.Test.YtdaenajhgbagdaaPlainG
namespace Go.Proofs.Ytdaenajhgbagdaa
namespace K
set_option linter.unusedVariables false
set_option linter.unusedSimpArgs false

theorem unary_lt (most : Int) : ∀ (l : List Bool) (n : Nat), (n : Int) ≤ most → ((unary most n l).2 = 0 → ((unary most n l).1 : Int) ≤ most) ∧ ((unary most n l).2 = 0 ∨ (unary most n l).2 = 3 ∨ (unary most n l).2 = 10)
  | [], n, h => by simp [unary]
  | false :: t, n, h => by simp [unary]; exact h
  | true :: t, n, h => by
    simp only [unary]
    split
    · simp
    · exact unary_lt most t (n + 1) (by omega)
theorem unary_to (most : Int) (bs : List Bool) (p : Nat) (hp : p ≤ bs.length) (h : (unary most 0 (bs.drop p)).2 = 0) : p + (unary most 0 (bs.drop p)).1 + 1 ≤ bs.length := by
  have := (unary_le most (bs.drop p) 0).2.2 h
  rw [List.length_drop] at this
  omega
theorem picksG_rest (bs : List Bool) (many : Nat) (rest : List Nat) : ∀ (m : Nat) (o out : List Nat) (p : Nat), o.length = many → 0 < many → picksG bs many m (o ++ rest) out p = picksG bs many m o out p
  | 0, o, out, p, h, h0 => rfl
  | m + 1, o, out, p, h, h0 => by
    rw [picksG, picksG]
    by_cases hz : (unary ((many : Int) - 1) 0 (bs.drop p)).2 = 0
    · have hl := (unary_lt ((many : Int) - 1) (bs.drop p) 0 (by omega)).1 hz
      have hl2 : (unary ((many : Int) - 1) 0 (bs.drop p)).1 < o.length := by omega
      rw [if_pos hz, if_pos hz, turned_append o rest _ hl2, List.getD, List.getD, List.getElem?_append_left hl2]
      exact picksG_rest bs many rest m _ _ _ (by rw [turned_length o _ hl2]; exact h) h0
    · rw [if_neg hz, if_neg hz]
theorem picksG_ok (bs : List Bool) (many : Nat) (h0 : 0 < many) : ∀ (m : Nat) (o out : List Nat) (p : Nat), o.length = many → p ≤ bs.length → (∀ x ∈ o, x < many) → (∀ x ∈ out, x < many) → (picksG bs many m o out p).2.2 = 0 →
    (picksG bs many m o out p).1.length = out.length + m ∧ (picksG bs many m o out p).2.1 ≤ bs.length ∧ ∀ x ∈ (picksG bs many m o out p).1, x < many
  | 0, o, out, p, h, hp, ho, hout, hz => ⟨rfl, hp, hout⟩
  | m + 1, o, out, p, h, hp, ho, hout, hz => by
    rw [picksG] at hz ⊢
    by_cases hu : (unary ((many : Int) - 1) 0 (bs.drop p)).2 = 0
    · have hl := (unary_lt ((many : Int) - 1) (bs.drop p) 0 (by omega)).1 hu
      have hl2 : (unary ((many : Int) - 1) 0 (bs.drop p)).1 < o.length := by omega
      rw [if_pos hu] at hz ⊢
      have hx : o.getD (unary ((many : Int) - 1) 0 (bs.drop p)).1 0 < many := ho _ (by rw [List.getD, List.getElem?_eq_getElem hl2]; exact List.getElem_mem hl2)
      obtain ⟨r1, r2, r3⟩ := picksG_ok bs many h0 m _ _ _ (by rw [turned_length o _ hl2]; exact h) (unary_to _ bs p hp hu) (fun x hx => ho x ((turned_mem o _ hl2 x).1 hx)) (fun x hx2 => by
        rcases List.mem_append.1 hx2 with h | h
        · exact hout x h
        · rw [List.mem_singleton.1 h]; exact hx) hz
      rw [List.length_append] at r1
      exact ⟨by simpa [Nat.add_assoc, Nat.add_comm 1 m] using r1, r2, r3⟩
    · rw [if_neg hu] at hz
      rcases (unary_lt ((many : Int) - 1) (bs.drop p) 0 (by omega)).2 with h1 | h1 | h1
      · exact absurd h1 hu
      · rw [h1] at hz; simp at hz
      · rw [h1] at hz; simp at hz
theorem lens_ok (n : Nat) (N : Nat) : ∀ (f : Nat) (acc : List Int) (now : Int) (p : Nat) (l : List Bool), l.length ≤ f → p + l.length = N → acc.length ≤ n → (lens n acc now p l).2.2 = 0 → (lens n acc now p l).1.length = n ∧ (lens n acc now p l).2.1 ≤ N := by
  intro f
  induction f with
  | zero =>
    intro acc now p l hl hN ha h
    have : l = [] := by cases l <;> simp_all
    subst this
    by_cases hd : n ≤ acc.length
    · rw [lens_done _ _ _ _ _ hd]
      exact ⟨by simp only; omega, by simp at hN ⊢; omega⟩
    · by_cases hb : now < 1 ∨ 20 < now
      · rw [lens_bad _ _ _ _ _ (by omega) hb] at h; simp at h
      · rw [lens_end _ _ _ _ (by omega) hb] at h; simp at h
  | succ f ih =>
    intro acc now p l hl hN ha h
    by_cases hd : n ≤ acc.length
    · rw [lens_done _ _ _ _ _ hd]
      exact ⟨by simp only; omega, by simp only; omega⟩
    · by_cases hb : now < 1 ∨ 20 < now
      · rw [lens_bad _ _ _ _ _ (by omega) hb] at h; simp at h
      · match l, hl, hN, h with
        | [], hl, hN, h => rw [lens_end _ _ _ _ (by omega) hb] at h; simp at h
        | false :: r, hl, hN, h =>
          rw [lens_zero _ _ _ _ _ (by omega) hb] at h ⊢
          exact ih _ _ _ _ (by simpa using hl) (by simp at hN; omega) (by simp; omega) h
        | [true], hl, hN, h => rw [lens_short _ _ _ _ (by omega) hb] at h; simp at h
        | true :: false :: r, hl, hN, h =>
          rw [lens, if_neg (by omega), if_neg hb] at h ⊢
          exact ih _ _ _ _ (by simp at hl; omega) (by simp at hN; omega) (by omega) h
        | true :: true :: r, hl, hN, h =>
          rw [lens, if_neg (by omega), if_neg hb] at h ⊢
          exact ih _ _ _ _ (by simp at hl; omega) (by simp at hN; omega) (by omega) h
theorem lensR_ok (bs : List Bool) (at_ n : Int) (h : (lensR bs at_ n).2.2 = 0) : (lensR bs at_ n).1.length = n.toNat ∧ (lensR bs at_ n).2.1 ≤ bs.length := by
  unfold lensR at h ⊢
  split at h
  · simp at h
  · rename_i h1
    split at h
    · simp at h
    · rename_i h2
      rw [if_neg h1, if_neg h2]
      exact lens_ok n.toNat bs.length _ [] _ _ _ (Nat.le_refl _) (by rw [List.length_drop]; omega) (by simp) h
theorem tabsG_ok (bs : List Bool) (n : Int) : ∀ (m : Nat) (out : List (List Int)) (p : Nat), p ≤ bs.length → (∀ t ∈ out, t.length = n.toNat) → (tabsG bs n m out p).2.2 = 0 →
    (tabsG bs n m out p).1.length = out.length + m ∧ (tabsG bs n m out p).2.1 ≤ bs.length ∧ ∀ t ∈ (tabsG bs n m out p).1, t.length = n.toNat
  | 0, out, p, hp, ho, h => ⟨rfl, hp, ho⟩
  | m + 1, out, p, hp, ho, h => by
    rw [tabsG] at h ⊢
    by_cases hz : (lensR bs (p : Int) n).2.2 = 0
    · rw [if_neg (fun h => h hz)] at h ⊢
      cases hg : goodL (lensR bs (p : Int) n).1 with
      | false => rw [hg] at h; simp at h
      | true =>
        rw [hg] at h
        simp only [if_true] at h ⊢
        obtain ⟨l1, l2⟩ := lensR_ok bs p n hz
        obtain ⟨r1, r2, r3⟩ := tabsG_ok bs n m (out ++ [(lensR bs (p : Int) n).1]) _ l2 (fun t ht => by
          rcases List.mem_append.1 ht with h | h
          · exact ho t h
          · rw [List.mem_singleton.1 h]; exact l1) h
        rw [List.length_append] at r1
        exact ⟨by simpa [Nat.add_assoc, Nat.add_comm 1 m] using r1, r2, r3⟩
    · rw [if_pos hz] at h
      exact absurd h hz
end K
end Go.Proofs.Ytdaenajhgbagdaa
