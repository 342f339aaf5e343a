/-
  Codes, symbols told in codes and read again: what the functions answer, in plain words.
-/
import Derived.Test.YtodjfgdolegfpaaPlainQ
namespace Go.Proofs.Ytodjfgdolegfpaa
namespace K
set_option linter.unusedVariables false

/-- Codes' answer. -/
def codesR (l : List Int) : List Nat × Nat := if goodL l then (codesP (natsOf l), 0) else ([], 80)
/-- A symbol's code, as bits. -/
def symP (ls : List Nat) (i : Nat) : List Bool := low (codeP ls i) (ls.getD i 0)
/-- Symbols in codes. -/
def encP (ls : List Nat) : List Int → Option (List Bool)
  | [] => some []
  | s :: r => if s < 0 ∨ (ls.length : Int) ≤ s then none else (encP ls r).map (symP ls s.toNat ++ ·)
theorem encP_none (ls : List Nat) (s : Int) (r : List Int) (h : s < 0 ∨ (ls.length : Int) ≤ s) : encP ls (s :: r) = none := by rw [encP, if_pos h]
theorem encP_cons (ls : List Nat) (s : Int) (r : List Int) (h : ¬ (s < 0 ∨ (ls.length : Int) ≤ s)) : encP ls (s :: r) = (encP ls r).map (symP ls s.toNat ++ ·) := by rw [encP, if_neg h]
theorem map_map_app (o : Option (List Bool)) (A x : List Bool) : (o.map (x ++ ·)).map (A ++ ·) = o.map (A ++ x ++ ·) := by
  cases o <;> simp
theorem symP_length (ls : List Nat) (i : Nat) : (symP ls i).length = ls.getD i 0 := by simp [symP, low_length]
/-- Encode's answer. -/
def encR (l list : List Int) : List UInt8 × Int × Nat :=
  if goodL l then match encP (natsOf l) list with | none => ([], 0, 60) | some bs => (pack bs, ((bs.length : Nat) : Int), 0) else ([], 0, 80)
theorem encR_bad (l list : List Int) (h : goodL l = false) : encR l list = ([], 0, 80) := by unfold encR; rw [h]; rfl
theorem encR_none (l list : List Int) (h : goodL l = true) (he : encP (natsOf l) list = none) : encR l list = ([], 0, 60) := by unfold encR; rw [h, he]; rfl
theorem encR_some (l list : List Int) (bs : List Bool) (h : goodL l = true) (he : encP (natsOf l) list = some bs) : encR l list = (pack bs, ((bs.length : Nat) : Int), 0) := by unfold encR; rw [h, he]; rfl

/-! ### Some symbols read -/
/-- As long as fewer than n are read, and the end is not. -/
def allP (ls : List Nat) (bs : List Bool) (n e : Int) : Nat → List Nat → Nat → List Nat × Nat × Nat
  | 0, _, _ => ([], 0, 10)
  | f + 1, out, p =>
    if (out.length : Int) < n then
      if (nextR ls bs p).2.2 ≠ 0 then ([], 0, (nextR ls bs p).2.2)
      else if ((nextR ls bs p).1 : Int) = e then (out ++ [(nextR ls bs p).1], (nextR ls bs p).2.1, 0)
      else allP ls bs n e f (out ++ [(nextR ls bs p).1]) (nextR ls bs p).2.1
    else (out, p, 0)
/-- All's answer. -/
def allR (l : List Int) (bs : List Bool) (at_ n e : Int) : List Nat × Nat × Nat :=
  if goodL l then (if at_ < 0 ∨ (bs.length : Int) < at_ ∨ n < 0 then ([], 0, 2) else allP (natsOf l) bs n e (bs.length + 1) [] at_.toNat) else ([], 0, 80)
/-- Decode's. -/
def decR (l : List Int) (bs : List Bool) (at_ : Int) : Nat × Nat × Nat := if (allR l bs at_ 1 (-1)).2.2 ≠ 0 then (0, 0, (allR l bs at_ 1 (-1)).2.2) else ((allR l bs at_ 1 (-1)).1.getD 0 0, (allR l bs at_ 1 (-1)).2.1, 0)
theorem nextR_to (ls : List Nat) (bs : List Bool) (p : Nat) (h : (nextR ls bs p).2.2 = 0) : p < (nextR ls bs p).2.1 ∧ (nextR ls bs p).2.1 ≤ bs.length := nextP_to ls bs _ _ _ _ h
theorem nextR_err (ls : List Nat) (bs : List Bool) (p : Nat) (h : (nextR ls bs p).2.2 ≠ 0) : nextR ls bs p = (0, 0, (nextR ls bs p).2.2) := nextP_err ls bs _ _ _ _ h
theorem allP_done (ls : List Nat) (bs : List Bool) (n e : Int) (f : Nat) (out : List Nat) (p : Nat) (h : ¬ (out.length : Int) < n) : allP ls bs n e (f + 1) out p = (out, p, 0) := by rw [allP, if_neg h]
theorem allP_err (ls : List Nat) (bs : List Bool) (n e : Int) (f : Nat) (out : List Nat) (p x : Nat) (h : (out.length : Int) < n) (hn : nextR ls bs p = (0, 0, x)) (hx : x ≠ 0) : allP ls bs n e (f + 1) out p = ([], 0, x) := by
  rw [allP, if_pos h, hn, if_pos hx]
theorem allP_end (ls : List Nat) (bs : List Bool) (n e : Int) (f : Nat) (out : List Nat) (p x to : Nat) (h : (out.length : Int) < n) (hn : nextR ls bs p = (x, to, 0)) (hx : (x : Int) = e) : allP ls bs n e (f + 1) out p = (out ++ [x], to, 0) := by
  rw [allP, if_pos h, hn, if_neg (by simp), if_pos hx]
theorem allP_more (ls : List Nat) (bs : List Bool) (n e : Int) (f : Nat) (out : List Nat) (p x to : Nat) (h : (out.length : Int) < n) (hn : nextR ls bs p = (x, to, 0)) (hx : (x : Int) ≠ e) : allP ls bs n e (f + 1) out p = allP ls bs n e f (out ++ [x]) to := by
  rw [allP, if_pos h, hn, if_neg (by simp), if_neg hx]

theorem allR_one (l : List Int) (bs : List Bool) (at_ : Int) (h : (allR l bs at_ 1 (-1)).2.2 = 0) : ∃ x p, allR l bs at_ 1 (-1) = ([x], p, 0) := by
  unfold allR at h ⊢
  split
  · rename_i hg
    rw [if_pos hg] at h
    split
    · rename_i ha
      rw [if_pos ha] at h; cases h
    · rename_i ha
      rw [if_neg ha] at h
      have hlen : at_.toNat ≤ bs.length := by omega
      by_cases hz : (nextR (natsOf l) bs at_.toNat).2.2 = 0
      · have hto := nextR_to (natsOf l) bs at_.toNat hz
        obtain ⟨f, hf⟩ : ∃ f, bs.length = f + 1 := ⟨bs.length - 1, by omega⟩
        rw [allP_more _ _ _ _ _ _ _ (nextR (natsOf l) bs at_.toNat).1 (nextR (natsOf l) bs at_.toNat).2.1 (by simp) (by rw [← hz]) (by omega), hf, List.nil_append, allP_done _ _ _ _ _ _ _ (by simp)]
        exact ⟨_, _, rfl⟩
      · rw [allP_err _ _ _ _ _ _ _ _ (by simp) (nextR_err _ _ _ hz) hz] at h
        exact absurd h hz
  · rename_i hg
    rw [if_neg hg] at h; cases h
theorem allR_err (l : List Int) (bs : List Bool) (at_ : Int) (h : (allR l bs at_ 1 (-1)).2.2 ≠ 0) : decR l bs at_ = (0, 0, (allR l bs at_ 1 (-1)).2.2) := by unfold decR; rw [if_pos h]
theorem decR_one (l : List Int) (bs : List Bool) (at_ : Int) (x p : Nat) (h : allR l bs at_ 1 (-1) = ([x], p, 0)) : decR l bs at_ = (x, p, 0) := by unfold decR; rw [h]; rfl
theorem allP_small (ls : List Nat) (bs : List Bool) (n e : Int) : ∀ f out p, (allP ls bs n e f out p).2.2 ≤ 90 := by
  intro f
  induction f with
  | zero => intro out p; simp [allP]
  | succ f ih =>
    intro out p
    rw [allP]
    split
    · split
      · exact nextP_small ls bs 20 1 0 p
      · split
        · simp
        · exact ih _ _
    · simp
theorem allR_small (l : List Int) (bs : List Bool) (at_ n e : Int) : (allR l bs at_ n e).2.2 ≤ 90 := by
  unfold allR
  split
  · split
    · simp
    · exact allP_small _ _ _ _ _ _ _
  · simp
theorem allR_bad (l : List Int) (bs : List Bool) (at_ n e : Int) : (allR l bs at_ n e).2.2 ≠ 0 → allR l bs at_ n e = ([], 0, (allR l bs at_ n e).2.2) := by
  have key : ∀ f out p, (allP (natsOf l) bs n e f out p).2.2 ≠ 0 → allP (natsOf l) bs n e f out p = ([], 0, (allP (natsOf l) bs n e f out p).2.2) := by
    intro f
    induction f with
    | zero => intro out p _; rfl
    | succ f ih =>
      intro out p h
      rw [allP] at h ⊢
      split
      · rename_i h1
        rw [if_pos h1] at h
        split
        · rfl
        · rename_i h2
          rw [if_neg h2] at h
          split
          · rename_i h3; rw [if_pos h3] at h; exact absurd rfl h
          · rename_i h3; rw [if_neg h3] at h; exact ih _ _ h
      · rename_i h1; rw [if_neg h1] at h; exact absurd rfl h
  intro h
  unfold allR at h ⊢
  split
  · rename_i hg
    rw [if_pos hg] at h
    split
    · rfl
    · rename_i ha
      rw [if_neg ha] at h
      exact key _ _ _ h
  · rfl

/-! ### What was told is read -/
theorem low_bit (v m j : Nat) (h : j < m) : (low v m).getD j false = v.testBit (m - 1 - j) := by
  rw [List.getD, low_succ_get v m j h]; rfl
theorem half_bit (v d : Nat) : 2 * (v / 2 ^ (d + 1)) + (v.testBit d).toNat = v / 2 ^ d := by
  rw [testBit_div, Nat.pow_succ, ← Nat.div_div_eq_div_mul]
  omega
theorem nextP_told (ls : List Nat) (h20 : ∀ x ∈ ls, x ≤ 20) (hr : room ls ≤ 1048576) (bs : List Bool) (p i : Nat) (hi : i < ls.length)
    (hp : p + ls.getD i 0 ≤ bs.length) (hb : piece bs p (ls.getD i 0) = symP ls i) :
    ∀ d n, n + d = ls.getD i 0 → 1 ≤ n → nextP ls bs (21 - n) n (codeP ls i / 2 ^ (ls.getD i 0 - (n - 1))) (p + (n - 1)) = (i, p + ls.getD i 0, 0) := by
  obtain ⟨m, hm⟩ : ∃ m, ls.getD i 0 = m := ⟨_, rfl⟩
  have hx : ls.getD i 0 ≤ 20 := by rw [List.getD, List.getElem?_eq_getElem hi]; exact h20 _ (List.getElem_mem hi)
  have hbit : ∀ j, j < m → bs.getD (p + j) false = (codeP ls i).testBit (m - 1 - j) := by
    intro j hj
    have h1 := congrArg (fun l => l.getD j false) hb
    unfold piece at h1
    rw [hm, List.getD, List.getElem?_take, if_pos hj, List.getElem?_drop] at h1
    unfold symP at h1
    rw [hm, low_bit _ _ _ hj] at h1
    exact h1
  have hci := code_in ls i hi
  rw [hm] at hp hx hci ⊢
  intro d
  induction d with
  | zero =>
    intro n hn hn1
    obtain rfl : n = m := by omega
    rw [show 21 - n = (20 - n) + 1 by omega, nextP, if_neg (by omega), hbit (n - 1) (by omega), show n - (n - 1) = 0 + 1 by omega, show n - 1 - (n - 1) = 0 by omega, half_bit, Nat.pow_zero, Nat.div_one, if_pos hci]
    have ho := orderTo_get ls n 21 (codeP ls i - firstP ls n) i (by omega) ((idxs_get ls n _ i).2 ⟨hi, hm, by unfold codeP; rw [hm]; omega⟩)
    rw [List.getD, ho, Option.getD_some, show p + (n - 1) + 1 = p + n by omega]
  | succ d ih =>
    intro n hn hn1
    have ih := ih (n + 1) (by omega) (by omega)
    rw [Nat.add_sub_cancel] at ih
    have hbn : bs.getD (p + (n - 1)) false = (codeP ls i).testBit (m - n) := by rw [hbit (n - 1) (by omega), show m - 1 - (n - 1) = m - n by omega]
    have habove := head_above ls n i hi (by omega)
    rw [hm] at habove
    have hbg := some_begins ls h20 _ n i hi (by omega) rfl
    rw [hm] at hbg
    rw [show 21 - n = (20 - n) + 1 by omega, nextP, if_neg (by omega), hbn, show m - (n - 1) = (m - n) + 1 by omega, half_bit, if_neg (by omega), if_pos hbg]
    rw [show 21 - (n + 1) = 20 - n by omega] at ih
    rw [show p + (n - 1) + 1 = p + n by omega]
    exact ih
theorem next_told (ls : List Nat) (h1 : ∀ x ∈ ls, 1 ≤ x ∧ x ≤ 20) (hr : room ls ≤ 1048576) (bs : List Bool) (p i : Nat) (hi : i < ls.length)
    (hp : p + ls.getD i 0 ≤ bs.length) (hb : piece bs p (ls.getD i 0) = symP ls i) : nextR ls bs p = (i, p + ls.getD i 0, 0) := by
  have hx : 1 ≤ ls.getD i 0 := by rw [List.getD, List.getElem?_eq_getElem hi]; exact (h1 _ (List.getElem_mem hi)).1
  have hlt := code_lt ls (fun x hx => (h1 x hx).2) hr i hi
  have := nextP_told ls (fun x hx => (h1 x hx).2) hr bs p i hi hp hb (ls.getD i 0 - 1) 1 (by omega) (Nat.le_refl _)
  rw [show 21 - 1 = 20 from rfl, show 1 - 1 = 0 from rfl, Nat.sub_zero, Nat.div_eq_of_lt hlt, Nat.add_zero] at this
  exact this
/-- All symbols of a list that was told are read again. -/
theorem all_told (ls : List Nat) (h1 : ∀ x ∈ ls, 1 ≤ x ∧ x ≤ 20) (hr : room ls ≤ 1048576) (bs : List Bool) :
    ∀ (list : List Int) (B : List Bool) (out : List Nat) (p f : Nat), encP ls list = some B → p + B.length ≤ bs.length → piece bs p B.length = B → list.length < f →
      allP ls bs ((out.length + list.length : Nat) : Int) (-1) f out p = (out ++ list.map Int.toNat, p + B.length, 0) := by
  intro list
  induction list with
  | nil =>
    intro B out p f hB hp hpc hf
    obtain ⟨f, rfl⟩ : ∃ g, f = g + 1 := ⟨f - 1, by simp at hf; omega⟩
    have : B = [] := by simpa [encP] using hB.symm
    subst this
    rw [allP_done _ _ _ _ _ _ _ (by simp)]
    simp
  | cons s r ih =>
    intro B out p f hB hp hpc hf
    obtain ⟨f, rfl⟩ : ∃ g, f = g + 1 := ⟨f - 1, by simp at hf; omega⟩
    by_cases hs : s < 0 ∨ (ls.length : Int) ≤ s
    · rw [encP_none _ _ _ hs] at hB; cases hB
    · rw [encP_cons _ _ _ hs] at hB
      cases he : encP ls r with
      | none => rw [he] at hB; cases hB
      | some R =>
        rw [he] at hB
        have hB : symP ls s.toNat ++ R = B := by simpa using hB
        subst hB
        have hi : s.toNat < ls.length := by omega
        have hl := symP_length ls s.toNat
        rw [List.length_append, hl] at hp hpc
        have hpc1 : piece bs p (ls.getD s.toNat 0) = symP ls s.toNat := by
          have := congrArg (fun l => l.take (ls.getD s.toNat 0)) hpc
          unfold piece at this ⊢
          rw [List.take_take, Nat.min_eq_left (by omega)] at this
          rw [this, ← hl, List.take_left]
        have hpc2 : piece bs (p + ls.getD s.toNat 0) R.length = R := by
          have := congrArg (fun l => l.drop (ls.getD s.toNat 0)) hpc
          unfold piece at this ⊢
          rw [List.drop_take, List.drop_drop, Nat.add_sub_cancel_left] at this
          rw [this, ← hl, List.drop_left]
        have hnx := next_told ls h1 hr bs p s.toNat hi (by omega) hpc1
        rw [allP_more _ _ _ _ _ _ _ _ _ (by simp; omega) hnx (by omega)]
        have := ih R (out ++ [s.toNat]) (p + ls.getD s.toNat 0) f he (by omega) hpc2 (by simp at hf; omega)
        rw [show ((out ++ [s.toNat]).length + r.length : Nat) = (out.length + (s :: r).length : Nat) by simp; omega] at this
        rw [this, List.length_append, hl]
        simp [Nat.add_assoc]
/-- Symbols that were told in codes, behind whatever bytes, are read again. -/
theorem allR_back (l list : List Int) (B : List Bool) (A : List UInt8) (h : goodL l = true) (he : encP (natsOf l) list = some B) :
    allR l (bitsOf (A ++ pack B)) ((8 * A.length : Nat) : Int) (list.length : Nat) (-1) = (list.map Int.toNat, 8 * A.length + B.length, 0) := by
  have hbl : (bitsOf (A ++ pack B)).length = 8 * A.length + 8 * ((B.length + 7) / 8) := by rw [bitsOf_length, List.length_append, pack_length]; omega
  unfold allR
  rw [h, if_pos rfl, if_neg (by rw [hbl]; omega), Int.toNat_natCast]
  -- each symbol takes a bit at least
  have hlist : ∀ (list : List Int) (B : List Bool), encP (natsOf l) list = some B → list.length ≤ B.length := by
    intro list
    induction list with
    | nil => intro B _; simp
    | cons s r ih =>
      intro B hB
      by_cases hs : s < 0 ∨ ((natsOf l).length : Int) ≤ s
      · rw [encP_none _ _ _ hs] at hB; cases hB
      · rw [encP_cons _ _ _ hs] at hB
        cases he : encP (natsOf l) r with
        | none => rw [he] at hB; cases hB
        | some R =>
          rw [he] at hB
          have hB : symP (natsOf l) s.toNat ++ R = B := by simpa using hB
          subst hB
          have hi : s.toNat < (natsOf l).length := by omega
          have := ih R he
          have hx : 1 ≤ (natsOf l).getD s.toNat 0 := by rw [List.getD, List.getElem?_eq_getElem hi]; exact (goodL_in h _ (List.getElem_mem hi)).1
          rw [List.length_append, symP_length, List.length_cons]
          omega
  have hll := hlist list B he
  have hpc : piece (bitsOf (A ++ pack B)) (8 * A.length) B.length = B := by
    have := piece_behind A B 0 B.length (by omega)
    rw [Nat.add_zero] at this
    rw [this]
    simp [piece]
  have := all_told (natsOf l) (goodL_in h) (goodL_room h) (bitsOf (A ++ pack B)) list B [] (8 * A.length) ((bitsOf (A ++ pack B)).length + 1) he (by rw [hbl]; omega) hpc (by rw [hbl]; omega)
  simpa using this
end K
end Go.Proofs.Ytodjfgdolegfpaa
