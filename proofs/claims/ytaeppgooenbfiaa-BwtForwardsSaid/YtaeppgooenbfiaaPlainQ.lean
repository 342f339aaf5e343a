/-
  Prefix codes read, in plain words: the program's way and the document's are one.
-/
import Derived.Test.YtaeppgooenbfiaaPlainP
import Derived.Test.YtaeppgooenbfiaaPlainT
namespace Go.Proofs.Ytaeppgooenbfiaa
namespace K
set_option linter.unusedVariables false

theorem low_take_div (v m n : Nat) (h : n ≤ m) : (low v m).take n = low (v / 2 ^ (m - n)) n := by
  apply List.ext_getElem?
  intro k
  rw [List.getElem?_take]
  split
  · rename_i hk
    rw [low_succ_get _ _ _ (by omega), low_succ_get _ _ _ hk, ← Nat.shiftRight_eq_div_pow, Nat.testBit_shiftRight]
    congr 2
    omega
  · rw [List.getElem?_eq_none (by rw [low_length]; omega)]
theorem low_eq (v n : Nat) (b : List Bool) (hv : v < 2 ^ n) (hb : b.length = n) : low v n = b ↔ v = num b := by
  constructor
  · intro h; rw [← h, num_low, Nat.mod_eq_of_lt hv]
  · intro h; rw [h, ← hb]; exact low_num b
theorem piece_snoc (bs : List Bool) (p n : Nat) (h : p + n < bs.length) : piece bs p (n + 1) = piece bs p n ++ [bs.getD (p + n) false] := by
  have h1 : n < (bs.drop p).length := by rw [List.length_drop]; omega
  unfold piece
  rw [List.take_succ_eq_append_getElem h1]
  congr 2
  rw [List.getElem_drop, List.getD, List.getElem?_eq_getElem h]
  rfl
theorem num_piece (bs : List Bool) (p n : Nat) (h : p + n < bs.length) : num (piece bs p (n + 1)) = 2 * num (piece bs p n) + (bs.getD (p + n) false).toNat := by
  rw [piece_snoc bs p n h, num_snoc]

/-- A symbol read, as the program does it: n bits are to be read next at p, code is what stands ahead. -/
def nextP (ls : List Nat) (bs : List Bool) : Nat → Nat → Nat → Nat → Nat × Nat × Nat
  | 0, _, _, _ => (0, 0, 90)
  | f + 1, n, code, p =>
    if bs.length < p + 1 then (0, 0, 10)
    else if firstP ls n ≤ 2 * code + (bs.getD p false).toNat ∧ 2 * code + (bs.getD p false).toNat < firstP ls n + ls.count n then
      ((orderTo ls 21).getD ((orderTo ls n).length + (2 * code + (bs.getD p false).toNat - firstP ls n)) 0, p + 1, 0)
    else if beginsP ls (2 * code + (bs.getD p false).toNat) n then nextP ls bs f (n + 1) (2 * code + (bs.getD p false).toNat) (p + 1) else (0, 0, 90)
/-- How many codes of the first i begin with b, and which is b. -/
def begTo (t : List (List Bool)) (b : List Bool) : Nat → Nat × Int
  | 0 => (0, -1)
  | i + 1 => if b <+: t.getD i [] then ((begTo t b i).1 + 1, if (t.getD i []).length = b.length then (i : Int) else (begTo t b i).2) else begTo t b i
/-- A symbol read, as the document says it. -/
def refNext (t : List (List Bool)) (bs : List Bool) (p : Nat) : Nat → Nat → Nat × Nat × Nat
  | 0, _ => (0, 0, 90)
  | f + 1, n => if bs.length < p + n then (0, 0, 10) else if 0 ≤ (begTo t (piece bs p n) t.length).2 then ((begTo t (piece bs p n) t.length).2.toNat, p + n, 0)
      else if (begTo t (piece bs p n) t.length).1 = 0 then (0, 0, 90) else refNext t bs p f (n + 1)
theorem begTo_le (t : List (List Bool)) (b : List Bool) (i : Nat) : (begTo t b i).1 ≤ i ∧ -1 ≤ (begTo t b i).2 ∧ (begTo t b i).2 < i := by
  induction i with
  | zero => simp [begTo]
  | succ i ih =>
    rw [begTo]
    split
    · simp only
      split <;> omega
    · omega
theorem begTo_none (t : List (List Bool)) (b : List Bool) : ∀ i, (∀ j, j < i → ¬ b <+: t.getD j []) → (begTo t b i).1 = 0 := by
  intro i
  induction i with
  | zero => intro _; rfl
  | succ i ih =>
    intro h
    rw [begTo, if_neg (h i (by omega))]
    exact ih fun j hj => h j (by omega)
theorem begTo_some (t : List (List Bool)) (b : List Bool) (j : Nat) (hb : b <+: t.getD j []) : ∀ i, j < i → (begTo t b i).1 ≠ 0 := by
  intro i
  induction i with
  | zero => intro h; omega
  | succ i ih =>
    intro h
    rw [begTo]
    split
    · simp
    · rename_i hn
      rcases Nat.lt_or_ge j i with hj | hj
      · exact ih hj
      · obtain rfl : j = i := by omega
        exact absurd hb hn
theorem begTo_not (t : List (List Bool)) (b : List Bool) : ∀ i, (∀ j, j < i → t.getD j [] ≠ b) → (begTo t b i).2 = -1 := by
  intro i
  induction i with
  | zero => intro _; rfl
  | succ i ih =>
    intro h
    have ih := ih fun j hj => h j (by omega)
    rw [begTo]
    split
    · rename_i hp
      have : ¬ (t.getD i []).length = b.length := fun hl => h i (by omega) (hp.eq_of_length hl.symm).symm
      simp only [if_neg this]
      exact ih
    · exact ih
theorem begTo_is (t : List (List Bool)) (b : List Bool) (j : Nat) (hj : t.getD j [] = b) : ∀ i, j < i → (∀ k, k < i → t.getD k [] = b → k = j) → (begTo t b i).2 = (j : Int) := by
  intro i
  induction i with
  | zero => intro h; omega
  | succ i ih =>
    intro h hu
    rw [begTo]
    rcases Nat.lt_or_ge j i with hlt | hge
    · have ih := ih hlt (fun k hk => hu k (by omega))
      split
      · rename_i hp
        have : ¬ (t.getD i []).length = b.length := fun hl => by
          have := hu i (by omega) (hp.eq_of_length hl.symm).symm
          omega
        simp only [if_neg this]
        exact ih
      · exact ih
    · obtain rfl : j = i := by omega
      rw [hj, if_pos (List.prefix_refl b)]
      simp
theorem tabP_getD (ls : List Nat) (i : Nat) (h : i < ls.length) : (tabP ls).getD i [] = low (codeP ls i) (ls.getD i 0) := by
  rw [List.getD, tabP_get ls i h]; rfl
theorem prefix_low (v m : Nat) (b : List Bool) (hb : b.length ≤ m) (hv : v < 2 ^ m) : b <+: low v m ↔ v / 2 ^ (m - b.length) = num b := by
  have hlt : v / 2 ^ (m - b.length) < 2 ^ b.length := by
    rw [Nat.div_lt_iff_lt_mul (Nat.two_pow_pos _), ← Nat.pow_add, show b.length + (m - b.length) = m by omega]
    exact hv
  rw [List.prefix_iff_eq_take, low_take_div _ _ _ hb, ← low_eq _ _ b hlt rfl]
  exact eq_comm

theorem next_same (ls : List Nat) (h1 : ∀ x ∈ ls, 1 ≤ x ∧ x ≤ 20) (hr : room ls ≤ 1048576) (bs : List Bool) (p : Nat) :
    ∀ f n, n + f = 21 → 1 ≤ n → p + (n - 1) ≤ bs.length → firstP ls (n - 1) + ls.count (n - 1) ≤ num (piece bs p (n - 1)) →
      nextP ls bs f n (num (piece bs p (n - 1))) (p + (n - 1)) = refNext (tabP ls) bs p f n := by
  have h20 : ∀ x ∈ ls, x ≤ 20 := fun x hx => (h1 x hx).2
  intro f
  induction f with
  | zero => intro n _ _ _ _; rfl
  | succ f ih =>
    intro n hn hn1 hp hinv
    rw [nextP, refNext]
    by_cases hsh : bs.length < p + n
    · rw [if_pos (by omega), if_pos hsh]
    · rw [if_neg (by omega), if_neg hsh]
      have hc := num_piece bs p (n - 1) (by omega)
      rw [show n - 1 + 1 = n by omega] at hc
      rw [← hc]
      have hfirst : firstP ls n ≤ num (piece bs p n) := by
        rw [show n = (n - 1) + 1 by omega, firstP, show n - 1 + 1 = n by omega, hc]
        omega
      have hbl := piece_length bs p n (by omega)
      have hblt := num_lt (piece bs p n)
      rw [hbl] at hblt
      generalize hB : piece bs p n = B at hc hfirst hbl hblt ⊢
      have htl := tabP_length ls
      have hcl : ∀ i, i < ls.length → codeP ls i < 2 ^ (ls.getD i 0) := fun i hi => code_lt ls h20 hr i hi
      have hexact : ∀ i, i < ls.length → ((tabP ls).getD i [] = B ↔ ls.getD i 0 = n ∧ codeP ls i = num B) := by
        intro i hi
        rw [tabP_getD ls i hi]
        constructor
        · intro h
          have hl := congrArg List.length h
          rw [low_length, hbl] at hl
          refine ⟨hl, ?_⟩
          have h3 := hcl i hi
          rw [hl] at h h3
          exact (low_eq _ _ _ h3 hbl).1 h
        · rintro ⟨h2, h3⟩
          have h4 := hcl i hi
          rw [h2] at h4 ⊢
          exact (low_eq _ _ _ h4 hbl).2 h3
      by_cases hA : firstP ls n ≤ num B ∧ num B < firstP ls n + ls.count n
      · rw [if_pos hA]
        obtain ⟨i, hi, hl, hcd, hix⟩ := code_has ls n _ hA.1 hA.2
        have his := begTo_is (tabP ls) B i ((hexact i hi).2 ⟨hl, hcd⟩) (tabP ls).length (by rw [htl]; exact hi) (fun k hk hkB => by
          rw [htl] at hk
          obtain ⟨h2, h3⟩ := (hexact k hk).1 hkB
          exact code_one ls k i hk hi (by omega) (by omega))
        rw [his, if_pos (by omega), Int.toNat_natCast]
        have ho := orderTo_get ls n 21 _ i (by omega) hix
        rw [List.getD, ho, Option.getD_some, show p + (n - 1) + 1 = p + n by omega]
      · rw [if_neg hA]
        have hge : firstP ls n + ls.count n ≤ num B := by omega
        have hnot := begTo_not (tabP ls) B (tabP ls).length (fun j hj h => by
          rw [htl] at hj
          obtain ⟨h2, h3⟩ := (hexact j hj).1 h
          have := code_in ls j hj
          rw [h2, h3] at this
          exact hA this)
        rw [hnot, if_neg (show ¬ (0 : Int) ≤ -1 by decide)]
        rcases Bool.eq_false_or_eq_true (beginsP ls (num B) n) with hb | hb
        · rw [if_pos hb]
          obtain ⟨i, hi, hlt, hd⟩ := begins_some ls _ n hge hb
          have hpre : B <+: (tabP ls).getD i [] := by
            rw [tabP_getD ls i hi, prefix_low _ _ _ (by omega) (hcl i hi), hbl]; exact hd
          rw [if_neg (begTo_some (tabP ls) B i hpre _ (by rw [htl]; exact hi))]
          have := ih (n + 1) (by omega) (by omega) (by omega) (by rw [Nat.add_sub_cancel, hB]; exact hge)
          rw [Nat.add_sub_cancel, hB] at this
          rw [show p + (n - 1) + 1 = p + n by omega]
          exact this
        · rw [if_neg (by rw [hb]; decide)]
          have hz := begTo_none (tabP ls) B (tabP ls).length (fun j hj h => by
            rw [htl] at hj
            rw [tabP_getD ls j hj] at h
            have hlen := h.length_le
            rw [low_length, hbl] at hlen
            rw [prefix_low _ _ _ (by omega) (hcl j hj), hbl] at h
            rcases Nat.lt_or_ge n (ls.getD j 0) with hlt | hge2
            · have := some_begins ls h20 (num B) n j hj hlt h
              rw [hb] at this; cases this
            · have he : ls.getD j 0 = n := by omega
              rw [he, Nat.sub_self, Nat.pow_zero, Nat.div_one] at h
              have := code_in ls j hj
              rw [he, h] at this
              exact hA this)
          rw [if_pos hz]
/-- A symbol read from p on. -/
def nextR (ls : List Nat) (bs : List Bool) (p : Nat) : Nat × Nat × Nat := nextP ls bs 20 1 0 p
theorem next_ref (ls : List Nat) (h1 : ∀ x ∈ ls, 1 ≤ x ∧ x ≤ 20) (hr : room ls ≤ 1048576) (bs : List Bool) (p : Nat) (hp : p ≤ bs.length) : refNext (tabP ls) bs p 20 1 = nextR ls bs p := by
  have hz : ls.count 0 = 0 := by
    rw [List.count_eq_zero]
    intro h; have := (h1 0 h).1; omega
  have := next_same ls h1 hr bs p 20 1 rfl (Nat.le_refl _) (by omega) (by rw [show 1 - 1 = 0 from rfl, hz]; simp [firstP])
  rw [← this, show 1 - 1 = 0 from rfl, piece_zero]
  rfl
/-- What a reading tells is beyond p, at most at the end, and a symbol. -/
theorem nextP_to (ls : List Nat) (bs : List Bool) : ∀ f n code p, (nextP ls bs f n code p).2.2 = 0 → p < (nextP ls bs f n code p).2.1 ∧ (nextP ls bs f n code p).2.1 ≤ bs.length := by
  intro f
  induction f with
  | zero => intro n code p h; simp [nextP] at h
  | succ f ih =>
    intro n code p h
    rw [nextP] at h ⊢
    by_cases h1 : bs.length < p + 1
    · rw [if_pos h1] at h; simp at h
    · rw [if_neg h1] at h ⊢
      split
      · simp only; omega
      · rename_i hA
        rw [if_neg hA] at h
        split
        · rename_i hb
          rw [if_pos hb] at h
          have := ih _ _ _ h
          omega
        · rename_i hb
          rw [if_neg hb] at h; simp at h
theorem nextP_err (ls : List Nat) (bs : List Bool) : ∀ f n code p, (nextP ls bs f n code p).2.2 ≠ 0 → nextP ls bs f n code p = (0, 0, (nextP ls bs f n code p).2.2) := by
  intro f
  induction f with
  | zero => intro n code p h; rfl
  | succ f ih =>
    intro n code p h
    rw [nextP] at h ⊢
    split
    · rfl
    · rename_i h1
      rw [if_neg h1] at h
      split
      · rename_i hA
        rw [if_pos hA] at h; simp at h
      · rename_i hA
        rw [if_neg hA] at h
        split
        · rename_i hb
          rw [if_pos hb] at h
          exact ih _ _ _ h
        · rfl
theorem nextP_small (ls : List Nat) (bs : List Bool) : ∀ f n code p, (nextP ls bs f n code p).2.2 ≤ 90 := by
  intro f
  induction f with
  | zero => intro n code p; simp [nextP]
  | succ f ih =>
    intro n code p
    rw [nextP]
    split
    · simp
    · split
      · simp
      · split
        · exact ih _ _ _
        · simp
end K
end Go.Proofs.Ytaeppgooenbfiaa
