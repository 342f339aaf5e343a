/-
  One step of a run, as the walks need it.
-/
import Derived.Test.YtcjkjknahalpnaaHufD
namespace Go.Proofs.Ytcjkjknahalpnaa
namespace K
set_option linter.unusedVariables false
set_option linter.unusedSimpArgs false

theorem wSum_perm {w : List Nat} {l l' : List (Nat × Nat)} (h : (l.map Prod.fst).Perm (l'.map Prod.fst)) : wSum w l = wSum w l' := by
  have e : ∀ l : List (Nat × Nat), wSum w l = ((l.map Prod.fst).map fun i => w.getD i 0).sum := fun l => by simp [wSum, Function.comp_def]
  rw [e, e]
  exact (h.map _).sum_nat
theorem forest_sum {w W over : List Nat} {F : List Tr} (h : Forest w.length w W over F) : wSum w (F.flatMap Prod.snd) = w.sum := by
  have e : wSum w (F.flatMap Prod.snd) = (((F.flatMap Prod.snd).map Prod.fst).map fun i => w.getD i 0).sum := by simp [wSum, Function.comp_def]
  rw [e, (h.leaves.map _).sum_nat, range_getD]
theorem hrun_over (w : List Nat) : ∀ k, (hrun w k).2.length = w.length + k
  | 0 => by simp [hrun]
  | k + 1 => by
    have := hrun_over w k
    rw [hrun]; simp only [hstep, List.length_append, List.length_set, List.length_cons, List.length_nil]; omega
theorem hrun_step (w : List Nat) (hw : ∀ x ∈ w, 1 ≤ x) (k : Nat) (hk : k + 2 ≤ w.length) : ∃ a b, a < w.length + k ∧ b < w.length + k ∧
    leastI (hrun w k).1 (hrun w k).2 (w.length + k) = some a ∧ leastI (hrun w k).1 ((hrun w k).2.set a (w.length + k)) (w.length + k) = some b ∧
    hrun w (k + 1) = ((hrun w k).1 ++ [(hrun w k).1.getD a 0 + (hrun w k).1.getD b 0], ((hrun w k).2.set a (w.length + k)).set b (w.length + k) ++ [0]) ∧
    (hrun w k).1.getD a 0 + (hrun w k).1.getD b 0 ≤ w.sum := by
  obtain ⟨F, f1, f2, f3, f4⟩ := hrun_ok w hw (by omega) k (by omega)
  have hl := hrun_len w k
  obtain ⟨s, t, R, hp, ha, hb, hs, ht, hst, he⟩ := hstep_forest f1 (by omega) (by omega)
  have es : hrun w (k + 1) = hstep ((hrun w k).1, (hrun w k).2) := rfl
  rw [hl] at ha hb he
  have hsum := forest_sum (f1.perm hp)
  have h1 := (f1.perm hp).ok s (by simp)
  have h2 := (f1.perm hp).ok t (by simp)
  refine ⟨s.1, t.1, by have := h1.root.1; omega, by have := h2.root.1; omega, ha, hb, by rw [es, he], ?_⟩
  rw [h1.weight, h2.weight, ← hsum]
  simp only [List.flatMap_cons, wSum_append]
  omega
end K
end Go.Proofs.Ytcjkjknahalpnaa
