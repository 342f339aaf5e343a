/-
  Lengths by tries, plainly: weights are halved till no length is above the most.
-/
import Derived.Test.YtcjkjknahalpnaaHufF
namespace Go.Proofs.Ytcjkjknahalpnaa
namespace K
set_option linter.unusedVariables false
set_option linter.unusedSimpArgs false

def Told (w ls : List Nat) : Prop := LensOf w ls (hrun w (w.length - 1)).2
theorem told_one {w a b : List Nat} (h : Told w a) (h' : Told w b) : a = b := by
  have e1 := h.len
  have e2 := h'.len
  apply List.ext_getElem?
  intro i
  by_cases hi : i < w.length
  · obtain ⟨r, u, hr⟩ := h.up i hi
    obtain ⟨q, v, hq⟩ := h'.up i hi
    have e := (u.one hr v hq).1
    rw [List.getD, List.getElem?_eq_getElem (by omega), List.getD, List.getElem?_eq_getElem (by omega)] at e
    rw [List.getElem?_eq_getElem (by omega), List.getElem?_eq_getElem (by omega)]
    simpa using e
  · rw [List.getElem?_eq_none (by omega), List.getElem?_eq_none (by omega)]
def halve (w : List Nat) : List Nat := w.map fun x => x / 2 + 1
/-- Behind so many halvings the lengths of a try are none above most. -/
def MadeN (most : Nat) : Nat → List Nat → List Nat → Prop
  | 0, w, ls => Told w ls ∧ ∀ x ∈ ls, x ≤ most
  | n + 1, w, ls => ∃ l0, Told w l0 ∧ (∃ x ∈ l0, most < x) ∧ MadeN most n (halve w) ls
theorem halve_length (w : List Nat) : (halve w).length = w.length := by simp [halve]
theorem halve_take (w : List Nat) (i x : Nat) (h : w[i]? = some x) : (halve (w.take i) ++ w.drop i).set i (x / 2 + 1) = halve (w.take (i + 1)) ++ w.drop (i + 1) := by
  obtain ⟨hi, hv⟩ := List.getElem?_eq_some_iff.1 h
  have hl : (halve (w.take i)).length = i := by simp [halve]; omega
  rw [List.set_append_right _ _ (by omega), hl, Nat.sub_self, List.drop_eq_getElem_cons hi, List.set_cons_zero, List.take_succ_eq_append_getElem hi, hv]
  simp [halve]
theorem halve_at (w : List Nat) (i x : Nat) (h : w[i]? = some x) : (halve (w.take i) ++ w.drop i)[i]? = some x := by
  obtain ⟨hi, hv⟩ := List.getElem?_eq_some_iff.1 h
  have hl : (halve (w.take i)).length = i := by simp [halve]; omega
  rw [List.getElem?_append_right (by omega), hl, Nat.sub_self, List.getElem?_drop]
  simpa using h
theorem halve_le {w : List Nat} (h : ∀ x ∈ w, x ≤ 1073741824) : ∀ x ∈ halve w, x ≤ 1073741824 := by
  intro x hx
  obtain ⟨y, hy, rfl⟩ := List.mem_map.1 hx
  have := h y hy
  omega
theorem halve_pos (w : List Nat) : ∀ x ∈ halve w, 1 ≤ x := by
  intro x hx
  obtain ⟨y, -, rfl⟩ := List.mem_map.1 hx
  omega
theorem fib_mono : ∀ k, fib k ≤ fib (k + 1)
  | 0 => by decide
  | 1 => by decide
  | k + 2 => by
    show fib (k + 2) ≤ fib (k + 2) + fib (k + 1)
    omega
theorem fib_le {a b : Nat} (h : a ≤ b) : fib a ≤ fib b := by
  induction b with
  | zero => have : a = 0 := by omega
            subst this; exact Nat.le_refl _
  | succ b ih =>
    rcases Nat.lt_or_ge b a with h' | h'
    · have : a = b + 1 := by omega
      subst this; exact Nat.le_refl _
    · exact Nat.le_trans (ih h') (fib_mono b)
theorem fib_pow : ∀ k, 2 ^ k ≤ fib (2 * k + 1)
  | 0 => by decide
  | k + 1 => by
    have h := fib_pow k
    have h2 : fib (2 * k + 1) ≤ fib (2 * k + 2) := fib_mono (2 * k + 1)
    show 2 ^ (k + 1) ≤ fib (2 * k + 2) + fib (2 * k + 1)
    rw [Nat.pow_succ]; omega
theorem short_of {w ls : List Nat} (h : Told w ls) (hs : w.sum ≤ 1000000000000) (i : Nat) : ls.getD i 0 ≤ 78 := by
  obtain ⟨q, h1, h2⟩ := h.low
  rw [List.getD]
  cases e : ls[i]? with
  | none => simp
  | some x =>
    have := h1 x (List.mem_of_getElem? e)
    simp only [Option.getD_some]
    rcases Nat.lt_or_ge q 79 with hq | hq
    · omega
    · have h3 := fib_le (show 2 * 40 + 1 ≤ q + 2 by omega)
      have h4 := fib_pow 40
      have e : (2 : Nat) ^ 40 = 1099511627776 := by decide
      omega
theorem low_of {w ls : List Nat} (h : Told w ls) (hs : w.sum < 610) : ∀ x ∈ ls, x ≤ 12 := by
  obtain ⟨q, h1, h2⟩ := h.low
  intro x hx
  have := h1 x hx
  rcases Nat.lt_or_ge q 13 with hq | hq
  · omega
  · have := fib_le (show 15 ≤ q + 2 by omega)
    have e : fib 15 = 610 := by decide
    omega
theorem sum_le (w : List Nat) (b : Nat) (h : ∀ x ∈ w, x ≤ b) : w.sum ≤ w.length * b := by
  induction w with
  | nil => simp
  | cons x w ih =>
    have h1 := h x (by simp)
    have h2 := ih fun y hy => h y (by simp [hy])
    rw [List.sum_cons, List.length_cons, Nat.add_mul]; omega
theorem made_any (most : Nat) (hm : 12 ≤ most) : ∀ (j : Nat) (w : List Nat), (∀ x ∈ w, 1 ≤ x) → 1 ≤ w.length → w.length ≤ 258 → (∀ x ∈ w, x ≤ 2 ^ j + 1) → ∃ n ls, n ≤ j ∧ MadeN most n w ls
  | 0, w, h1, h2, h3, h4 => by
    obtain ⟨ls, hls⟩ := hrun_lens w h1 h2
    refine ⟨0, ls, Nat.le_refl _, hls, fun x hx => ?_⟩
    have := sum_le w 2 (fun x hx => by have := h4 x hx; omega)
    have := low_of hls (by omega) x hx
    omega
  | j + 1, w, h1, h2, h3, h4 => by
    obtain ⟨ls, hls⟩ := hrun_lens w h1 h2
    by_cases hall : ∀ x ∈ ls, x ≤ most
    · exact ⟨0, ls, by omega, hls, hall⟩
    · obtain ⟨n, l1, hn, hl1⟩ := made_any most hm j (halve w) (halve_pos w) (by rw [halve_length]; exact h2) (by rw [halve_length]; exact h3) (by
        intro x hx
        obtain ⟨y, hy, rfl⟩ := List.mem_map.1 hx
        have := h4 y hy
        rw [Nat.pow_succ] at this
        omega)
      refine ⟨n + 1, l1, by omega, ls, hls, ?_, hl1⟩
      simp only [Classical.not_forall] at hall
      obtain ⟨x, hx, hlt⟩ := hall
      exact ⟨x, hx, by omega⟩
/-- What is made leaves no room and is none above the most. -/
theorem madeN_ok {most : Nat} : ∀ {n : Nat} {w ls : List Nat}, MadeN most n w ls → ls.length = w.length ∧ (∀ x ∈ ls, x ≤ most) ∧ ∀ L, most ≤ L → (ls.map fun x => 2 ^ (L - x)).sum = 2 ^ L
  | 0, w, ls, h => ⟨h.1.len, h.2, fun L hL => h.1.kraft L fun x hx => Nat.le_trans (h.2 x hx) hL⟩
  | n + 1, w, ls, h => by
    obtain ⟨l0, -, -, h2⟩ := h
    obtain ⟨a, b, c⟩ := madeN_ok h2
    exact ⟨by rw [a, halve_length], b, c⟩
theorem made_pos {ls : List Nat} (h2 : 2 ≤ ls.length) (h : (ls.map fun x => 2 ^ (20 - x)).sum = 2 ^ 20) : ∀ x ∈ ls, 1 ≤ x := by
  intro x hx
  rcases Nat.eq_zero_or_pos x with h0 | h0
  · subst h0
    have hp := List.perm_cons_erase hx
    have hl := hp.length_eq
    have hs := (hp.map fun x => 2 ^ (20 - x)).sum_nat
    rw [List.map_cons, List.sum_cons, h] at hs
    simp only [List.length_cons] at hl
    cases he : ls.erase 0 with
    | nil => rw [he] at hl; simp at hl; omega
    | cons y r =>
      rw [he, List.map_cons, List.sum_cons] at hs
      have : 0 < 2 ^ (20 - y) := Nat.two_pow_pos _
      omega
  · exact h0
end K
end Go.Proofs.Ytcjkjknahalpnaa
