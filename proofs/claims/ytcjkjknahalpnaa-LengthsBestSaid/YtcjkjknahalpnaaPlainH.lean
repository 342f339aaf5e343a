/-
  Tables of lengths in bits, in plain words.
-/
import Derived.Test.YtcjkjknahalpnaaPlainG
namespace Go.Proofs.Ytcjkjknahalpnaa
namespace K

/-- The bits from the length ahead to the next. -/
def stepBits (now x : Int) : List Bool := (List.replicate (x - now).toNat [true, false]).flatten ++ ((List.replicate (now - x).toNat [true, true]).flatten ++ [false])
def showFrom (now : Int) : List Int → List Bool
  | [] => []
  | x :: xs => stepBits now x ++ showFrom x xs
def showBits (xs : List Int) : List Bool := low (xs.headD 0).toNat 5 ++ showFrom (xs.headD 0) xs
/-- These lengths may be told. -/
def lensOk (xs : List Int) : Bool := decide (2 ≤ xs.length ∧ xs.length ≤ 258) && xs.all fun x => decide (1 ≤ x ∧ x ≤ 20)
def showR (xs : List Int) : List UInt8 × Int × Nat := if lensOk xs then (pack (showBits xs), ((showBits xs).length : Nat), 0) else ([], 0, 80)

theorem step_up (now x : Int) (h : now < x) : stepBits now x = true :: false :: stepBits (now + 1) x := by
  unfold stepBits
  obtain ⟨k, hk⟩ : ∃ k : Nat, (x - now).toNat = k + 1 := ⟨(x - now).toNat - 1, by omega⟩
  rw [hk, show (x - (now + 1)).toNat = k by omega, show (now - x).toNat = 0 by omega, show (now + 1 - x).toNat = 0 by omega, List.replicate_succ]
  simp
theorem step_down (now x : Int) (h : x < now) : stepBits now x = true :: true :: stepBits (now - 1) x := by
  unfold stepBits
  obtain ⟨k, hk⟩ : ∃ k : Nat, (now - x).toNat = k + 1 := ⟨(now - x).toNat - 1, by omega⟩
  rw [hk, show (now - 1 - x).toNat = k by omega, show (x - now).toNat = 0 by omega, show (x - (now - 1)).toNat = 0 by omega, List.replicate_succ]
  simp
theorem step_same (x : Int) : stepBits x x = [false] := by simp [stepBits]
theorem step_len (now x : Int) : (stepBits now x).length = 1 + 2 * (x - now).natAbs := by
  unfold stepBits
  simp only [List.length_append, List.length_flatten, List.map_replicate, List.sum_replicate_nat, List.length_cons, List.length_nil]
  omega
theorem showFrom_cons (now x : Int) (xs : List Int) : showFrom now (x :: xs) = stepBits now x ++ showFrom x xs := rfl
theorem showFrom_len (now : Int) (xs : List Int) (h0 : 1 ≤ now ∧ now ≤ 20) (h : ∀ x ∈ xs, 1 ≤ x ∧ x ≤ 20) : (showFrom now xs).length ≤ 39 * xs.length := by
  induction xs generalizing now with
  | nil => simp [showFrom]
  | cons x xs ih =>
    have hx := h x (by simp)
    have := ih x hx (fun y hy => h y (by simp [hy]))
    have hl := step_len now x
    rw [showFrom_cons, List.length_append, List.length_cons]
    omega
theorem lensOk_iff (xs : List Int) : lensOk xs = true ↔ (2 ≤ xs.length ∧ xs.length ≤ 258) ∧ ∀ x ∈ xs, 1 ≤ x ∧ x ≤ 20 := by
  unfold lensOk
  simp [List.all_eq_true]
theorem head_mem (xs : List Int) (h : 0 < xs.length) : xs.headD 0 ∈ xs := by
  cases xs with
  | nil => simp at h
  | cons x xs => simp
theorem showBits_len (xs : List Int) (h : lensOk xs = true) : (showBits xs).length ≤ 20000 := by
  obtain ⟨⟨h1, h2⟩, h3⟩ := (lensOk_iff xs).1 h
  have := showFrom_len (xs.headD 0) xs (h3 _ (head_mem xs (by omega))) h3
  unfold showBits
  rw [List.length_append]
  have hl : (low (xs.headD 0).toNat 5).length = 5 := by simp [low]
  omega
theorem lensOk_no (xs : List Int) (h : ¬ (2 ≤ xs.length ∧ xs.length ≤ 258)) : lensOk xs = false := by
  cases e : lensOk xs with
  | false => rfl
  | true => exact absurd ((lensOk_iff xs).1 e).1 h
theorem lensOk_bad (xs : List Int) (i : Nat) (x : Int) (hx : xs[i]? = some x) (h : x < 1 ∨ 20 < x) : lensOk xs = false := by
  cases e : lensOk xs with
  | false => rfl
  | true => have := ((lensOk_iff xs).1 e).2 x (List.mem_of_getElem? hx); omega

/-! ### Lengths read -/
/-- Lengths are read, till there are n. -/
def lens (n : Nat) : List Int → Int → Nat → List Bool → List Int × Nat × Nat
  | acc, now, p, l => if n ≤ acc.length then (acc, p, 0) else if now < 1 ∨ 20 < now then ([], 0, 80) else
    match l with
    | [] => ([], 0, 10)
    | false :: r => lens n (acc ++ [now]) now (p + 1) r
    | [true] => ([], 0, 10)
    | true :: false :: r => lens n acc (now + 1) (p + 2) r
    | true :: true :: r => lens n acc (now - 1) (p + 2) r
def lensR (bs : List Bool) (at_ n : Int) : List Int × Nat × Nat :=
  if at_ < 0 ∨ (bs.length : Nat) < at_ ∨ n < 2 ∨ 258 < n then ([], 0, 2) else if bs.length < at_.toNat + 5 then ([], 0, 10) else
    lens n.toNat [] (num (piece bs at_.toNat 5)) (at_.toNat + 5) (bs.drop (at_.toNat + 5))
theorem lens_done (n : Nat) (acc : List Int) (now : Int) (p : Nat) (l : List Bool) (h : n ≤ acc.length) : lens n acc now p l = (acc, p, 0) := by
  unfold lens; rw [if_pos h]
theorem lens_bad (n : Nat) (acc : List Int) (now : Int) (p : Nat) (l : List Bool) (h : acc.length < n) (hn : now < 1 ∨ 20 < now) : lens n acc now p l = ([], 0, 80) := by
  unfold lens; rw [if_neg (by omega), if_pos hn]
theorem lens_end (n : Nat) (acc : List Int) (now : Int) (p : Nat) (h : acc.length < n) (hn : ¬ (now < 1 ∨ 20 < now)) : lens n acc now p [] = ([], 0, 10) := by
  unfold lens; rw [if_neg (by omega), if_neg hn]
theorem lens_zero (n : Nat) (acc : List Int) (now : Int) (p : Nat) (r : List Bool) (h : acc.length < n) (hn : ¬ (now < 1 ∨ 20 < now)) : lens n acc now p (false :: r) = lens n (acc ++ [now]) now (p + 1) r := by
  rw [lens, if_neg (by omega), if_neg hn]
theorem lens_short (n : Nat) (acc : List Int) (now : Int) (p : Nat) (h : acc.length < n) (hn : ¬ (now < 1 ∨ 20 < now)) : lens n acc now p [true] = ([], 0, 10) := by
  rw [lens, if_neg (by omega), if_neg hn]
theorem lens_up (n : Nat) (acc : List Int) (now : Int) (p : Nat) (r : List Bool) (h : acc.length < n) (hn : ¬ (now < 1 ∨ 20 < now)) : lens n acc now p (true :: false :: r) = lens n acc (now + 1) (p + 2) r := by
  rw [lens, if_neg (by omega), if_neg hn]
theorem lens_down (n : Nat) (acc : List Int) (now : Int) (p : Nat) (r : List Bool) (h : acc.length < n) (hn : ¬ (now < 1 ∨ 20 < now)) : lens n acc now p (true :: true :: r) = lens n acc (now - 1) (p + 2) r := by
  rw [lens, if_neg (by omega), if_neg hn]

/-! ### What was told is read -/
theorem lens_step (n : Nat) (acc : List Int) (x : Int) (rest : List Bool) (h : acc.length < n) (hx : 1 ≤ x ∧ x ≤ 20) : ∀ (d : Nat) (now : Int) (p : Nat), (x - now).natAbs = d → (1 ≤ now ∧ now ≤ 20) →
    lens n acc now p (stepBits now x ++ rest) = lens n (acc ++ [x]) x (p + (stepBits now x).length) rest := by
  intro d
  induction d with
  | zero =>
    intro now p hd hn
    obtain rfl : now = x := by omega
    rw [step_same]
    exact lens_zero n acc now p rest h (by omega)
  | succ d ih =>
    intro now p hd hn
    by_cases hlt : now < x
    · rw [step_up now x hlt]
      simp only [List.cons_append, List.length_cons]
      rw [lens_up n acc now p _ h (by omega), ih (now + 1) (p + 2) (by omega) (by omega)]
      congr 1
      omega
    · rw [step_down now x (by omega)]
      simp only [List.cons_append, List.length_cons]
      rw [lens_down n acc now p _ h (by omega), ih (now - 1) (p + 2) (by omega) (by omega)]
      congr 1
      omega
theorem lens_back (n : Nat) (xs : List Int) : ∀ (acc : List Int) (now : Int) (p : Nat) (rest : List Bool), acc.length + xs.length = n → (1 ≤ now ∧ now ≤ 20) → (∀ x ∈ xs, 1 ≤ x ∧ x ≤ 20) →
    lens n acc now p (showFrom now xs ++ rest) = (acc ++ xs, p + (showFrom now xs).length, 0) := by
  induction xs with
  | nil =>
    intro acc now p rest hl hn hx
    rw [lens_done _ _ _ _ _ (by simp at hl; omega)]
    simp [showFrom]
  | cons x xs ih =>
    intro acc now p rest hl hn hx
    rw [List.length_cons] at hl
    rw [showFrom_cons, List.append_assoc, lens_step n acc x _ (by omega) (hx x (by simp)) _ now p rfl hn, ih _ x _ _ (by simp; omega) (hx x (by simp)) (fun y hy => hx y (by simp [hy]))]
    simp [Nat.add_assoc]
end K
end Go.Proofs.Ytcjkjknahalpnaa
