/-
  What Take and Unary answer, in plain words. Plans of tables and picks, plainly. A plan told in bits, plainly. Symbols read by a plan, plainly. The reference's way to read symbols by a plan, plainly: the same answer. A plan read out of bits; symbols in a plan's codes; sizes; plainly.
-/
import Derived.Test.YtdaenajhgbagdaaPlainA
namespace Go.Proofs.Ytdaenajhgbagdaa
namespace K

/-- What Take answers: the number and the error. -/
def takeR (bs : List Bool) (i : Nat) (n : Int) : Nat × Nat := if n < 0 ∨ 64 < n then (0, 2) else if bs.length < i + n.toNat then (0, 10) else (num (piece bs i n.toNat), 0)
/-- What Unary answers. -/
def unaryR (bs : List Bool) (i : Nat) (most : Int) : Nat × Nat := if most < 0 then (0, 2) else unary most 0 (bs.drop i)
theorem takeR_zero (bs : List Bool) (i : Nat) (n : Int) (h : (takeR bs i n).2 = 0) : 0 ≤ n ∧ n ≤ 64 ∧ i + n.toNat ≤ bs.length := by
  unfold takeR at h
  split at h
  · simp at h
  · split at h
    · simp at h
    · omega
theorem takeR_lt (bs : List Bool) (i : Nat) (n : Int) : (takeR bs i n).1 < 18446744073709551616 ∧ (takeR bs i n).2 ≤ 10 := by
  unfold takeR
  split
  · simp
  · split
    · simp
    · rename_i h1 h2
      have := num_lt (piece bs i n.toNat)
      rw [piece_length bs i n.toNat (by omega)] at this
      have h3 : 2 ^ n.toNat ≤ 2 ^ 64 := Nat.pow_le_pow_right (by decide) (by omega)
      simp
      omega
theorem unary_le (most : Int) : ∀ (l : List Bool) (n : Nat), (unary most n l).2 ≤ 10 ∧ (unary most n l).1 ≤ n + l.length ∧ ((unary most n l).2 = 0 → (unary most n l).1 + 1 ≤ n + l.length)
  | [], n => by simp [unary]
  | false :: t, n => by simp [unary] <;> omega
  | true :: t, n => by
    simp only [unary]
    split
    · simp
    · have := unary_le most t (n + 1)
      simp only [List.length_cons]
      omega
theorem unaryR_zero (bs : List Bool) (i : Nat) (most : Int) (hi : i ≤ bs.length) : (unaryR bs i most).2 ≤ 10 ∧ (unaryR bs i most).1 ≤ bs.length ∧ ((unaryR bs i most).2 = 0 → i + (unaryR bs i most).1 + 1 ≤ bs.length) := by
  unfold unaryR
  split
  · simp
  · have := unary_le most (bs.drop i) 0
    rw [List.length_drop] at this
    omega
end K
end Go.Proofs.Ytdaenajhgbagdaa
namespace Go.Proofs.Ytdaenajhgbagdaa
namespace K
set_option linter.unusedVariables false
set_option linter.unusedSimpArgs false

/-- A list for n symbols. -/
def mayListL (list : List Int) (n : Int) : Bool := decide (3 ≤ n ∧ n ≤ 258) && decide (1 ≤ list.length ∧ list.length ≤ 1638350) && list.all fun s => decide (0 ≤ s ∧ s < n)
def tablesR (m : Int) : Nat × Nat := if m < 1 then (0, 2) else if m < 200 then (2, 0) else if m < 600 then (3, 0) else if m < 1200 then (4, 0) else if m < 2400 then (5, 0) else (6, 0)
/-- A table beside the first one. -/
def tableOk (n : Nat) (t : List Int) : Bool := decide (t.length = n) && decide (3 ≤ t.length) && goodL t
def mayPlan (T : List (List Int)) (P : List Int) : Bool :=
  decide (2 ≤ T.length ∧ T.length ≤ 6) && decide (1 ≤ P.length ∧ P.length ≤ 32767) && (T.all (tableOk (T.getD 0 []).length)) && P.all fun k => decide (0 ≤ k ∧ k < (T.length : Int))
/-- How many groups so many symbols have. -/
def groupsN (m : Nat) : Nat := (m + 49) / 50
/-- The k-th group. -/
def groupL {α : Type} (l : List α) (k : Nat) : List α := (l.drop (50 * k)).take 50
/-- Picks as places in an order whose last used one is moved to the front, in unary. -/
def mtf : List Nat → List Nat → List Bool
  | _, [] => []
  | o, p :: r => List.replicate (o.idxOf p) true ++ false :: mtf (turned o (o.idxOf p)) r
theorem turned_append (o rest : List Nat) (p : Nat) (h : p < o.length) : turned (o ++ rest) p = turned o p ++ rest := by
  unfold turned
  rw [List.getD, List.getD, List.getElem?_append_left h, List.eraseIdx_append_of_lt_length h, List.cons_append]
theorem mtf_rest (rest : List Nat) : ∀ (P o : List Nat), (∀ p ∈ P, p ∈ o) → mtf (o ++ rest) P = mtf o P
  | [], _, _ => rfl
  | p :: r, o, h => by
    have hp := h p (by simp)
    have hi : o.idxOf p < o.length := List.idxOf_lt_length_iff.2 hp
    have e : (o ++ rest).idxOf p = o.idxOf p := by rw [List.idxOf_append, if_pos hp]
    rw [mtf, mtf, e, turned_append o rest _ hi, mtf_rest rest r (turned o (o.idxOf p)) fun q hq => (turned_mem o _ hi q).2 (h q (by simp [hq]))]
theorem mtf_length (P : List Nat) : ∀ o : List Nat, (∀ p ∈ P, p ∈ o) → (mtf o P).length ≤ P.length * o.length := by
  induction P with
  | nil => intro o _; simp [mtf]
  | cons p r ih =>
    intro o h
    have hp := h p (by simp)
    have hi : o.idxOf p < o.length := List.idxOf_lt_length_iff.2 hp
    have := ih (turned o (o.idxOf p)) fun q hq => (turned_mem o _ hi q).2 (h q (by simp [hq]))
    rw [turned_length o _ hi] at this
    rw [mtf, List.length_append, List.length_replicate, List.length_cons, List.length_cons, Nat.add_mul, Nat.one_mul]
    omega
end K
end Go.Proofs.Ytdaenajhgbagdaa
namespace Go.Proofs.Ytdaenajhgbagdaa
namespace K
set_option linter.unusedVariables false
set_option linter.unusedSimpArgs false

theorem before_idx (x : Nat) : ∀ (l : List Nat) (j y : Nat), j < l.idxOf x → l[j]? = some y → y ≠ x
  | [], j, y, h, hy => by simp at hy
  | a :: l, j, y, h, hy => by
    rw [List.idxOf_cons] at h
    by_cases he : a = x
    · simp [he] at h
    · have hb : (a == x) = false := by simp [he]
      rw [hb] at h
      cases j with
      | zero => simp at hy; omega
      | succ j => exact before_idx x l j y (by simpa using h) (by simpa using hy)
/-- A plan's head and picks. -/
def headP (T : List (List Int)) (P : List Int) : List Bool := low T.length 3 ++ (low P.length 15 ++ mtf (List.range T.length) (natsOf P))
def planBits (T : List (List Int)) (P : List Int) : List Bool := headP T P ++ T.flatMap showBits
/-- What Show answers. -/
def showPR (T : List (List Int)) (P : List Int) : List UInt8 × Int × Nat := if mayPlan T P then (pack (planBits T P), ((planBits T P).length : Nat), 0) else ([], 0, 110)
theorem mayPlan_get {T : List (List Int)} {P : List Int} (h : mayPlan T P = true) : (2 ≤ T.length ∧ T.length ≤ 6) ∧ (1 ≤ P.length ∧ P.length ≤ 32767) ∧ (∀ t ∈ T, t.length = (T.getD 0 []).length ∧ 3 ≤ t.length ∧ goodL t = true) ∧ ∀ x ∈ P, 0 ≤ x ∧ x < (T.length : Int) := by
  unfold mayPlan at h
  rw [Bool.and_eq_true, Bool.and_eq_true, Bool.and_eq_true, decide_eq_true_eq, decide_eq_true_eq, List.all_eq_true, List.all_eq_true] at h
  obtain ⟨⟨⟨h1, h2⟩, h3⟩, h4⟩ := h
  refine ⟨h1, h2, fun t ht => ?_, fun x hx => by have := h4 x hx; rwa [decide_eq_true_eq] at this⟩
  have := h3 t ht
  unfold tableOk at this
  rw [Bool.and_eq_true, Bool.and_eq_true, decide_eq_true_eq, decide_eq_true_eq, and_assoc] at this
  exact this
theorem natsOf_mem {T : List (List Int)} {P : List Int} (h : ∀ x ∈ P, 0 ≤ x ∧ x < (T.length : Int)) : ∀ p ∈ natsOf P, p ∈ List.range T.length := by
  intro p hp
  obtain ⟨x, hx, rfl⟩ := List.mem_map.1 hp
  have := h x hx
  rw [List.mem_range]
  omega
theorem headP_length {T : List (List Int)} {P : List Int} (h : mayPlan T P = true) : (headP T P).length ≤ 200000 := by
  obtain ⟨h1, h2, -, h4⟩ := mayPlan_get h
  have := mtf_length (natsOf P) (List.range T.length) (natsOf_mem h4)
  rw [List.length_range, natsOf_length] at this
  unfold headP
  rw [List.length_append, List.length_append, low_length, low_length]
  have h5 : P.length * T.length ≤ 32767 * 6 := Nat.mul_le_mul h2.2 h1.2
  omega
/-- The pieces that are joined. -/
def planPs (T : List (List Int)) (P : List Int) (k : Nat) : List (List UInt8 × Int) := (pack (headP T P), ((headP T P).length : Nat)) :: (T.take k).map fun t => (pack (showBits t), ((showBits t).length : Nat))
theorem joinBits_map (l : List (List Int)) : joinBits (l.map fun t => (pack (showBits t), ((showBits t).length : Nat))) = l.flatMap showBits := by
  induction l with
  | nil => rfl
  | cons t l ih =>
    have e : joinBits ((t :: l).map fun t => (pack (showBits t), (((showBits t).length : Nat) : Int))) = oneJoin (pack (showBits t), ((showBits t).length : Nat)) ++ joinBits (l.map fun t => (pack (showBits t), (((showBits t).length : Nat) : Int))) := by
      simp [joinBits]
    rw [e, oneJoin_pack, ih, List.flatMap_cons]
theorem planPs_bits (T : List (List Int)) (P : List Int) : joinBits (planPs T P T.length) = planBits T P := by
  have e : joinBits (planPs T P T.length) = oneJoin (pack (headP T P), ((headP T P).length : Nat)) ++ joinBits ((T.take T.length).map fun t => (pack (showBits t), (((showBits t).length : Nat) : Int))) := by
    simp [joinBits, planPs]
  rw [e, oneJoin_pack, joinBits_map, List.take_length]
  rfl
theorem sum_bd (l : List (List Int)) (h : ∀ t ∈ l, goodL t = true) : ((l.map fun t => (pack (showBits t), (((showBits t).length : Nat) : Int))).map fun p => p.1.length).sum ≤ l.length * 2501 := by
  induction l with
  | nil => simp
  | cons t l ih =>
    have h1 := ih fun u hu => h u (by simp [hu])
    have h2 := showBits_len t (goodL_lens (h t (by simp)))
    rw [List.map_cons, List.map_cons, List.sum_cons, List.length_cons, pack_length, Nat.add_mul]
    omega
theorem planPs_total {T : List (List Int)} {P : List Int} (h : mayPlan T P = true) : total (planPs T P T.length) ≤ 1000000 := by
  obtain ⟨h1, -, h3, -⟩ := mayPlan_get h
  have a := headP_length h
  have b := sum_bd T fun t ht => (h3 t ht).2.2
  unfold total planPs
  rw [List.take_length, List.map_cons, List.sum_cons, pack_length]
  have c : T.length * 2501 ≤ 6 * 2501 := Nat.mul_le_mul_right _ h1.2
  omega
theorem planPs_small {T : List (List Int)} {P : List Int} (h : mayPlan T P = true) : ∀ p ∈ planPs T P T.length, p.2 ≤ 9223372036854775807 := by
  obtain ⟨-, -, h3, -⟩ := mayPlan_get h
  intro p hp
  simp only [planPs, List.mem_cons, List.mem_map, List.take_length] at hp
  rcases hp with rfl | ⟨t, ht, rfl⟩
  · have := headP_length h
    simp only
    omega
  · have := showBits_len t (goodL_lens (h3 t ht).2.2)
    simp only
    omega
end K
end Go.Proofs.Ytdaenajhgbagdaa
namespace Go.Proofs.Ytdaenajhgbagdaa
namespace K
set_option linter.unusedVariables false
set_option linter.unusedSimpArgs false

/-- Group by group, up to the end. -/
def getGo (T : List (List Int)) (bs : List Bool) (en : Int) : List Int → List Nat → Nat → List Nat × Nat × Nat
  | [], out, p => ([], 0, 110)
  | k :: r, out, p =>
    let R := allR (T.getD k.toNat []) bs (p : Int) 50 en
    if R.2.2 ≠ 0 then ([], 0, R.2.2) else if ((R.1.getD (R.1.length - 1) 0 : Nat) : Int) = en then (out ++ R.1, R.2.1, 0) else getGo T bs en r (out ++ R.1) R.2.1
def getR (T : List (List Int)) (P : List Int) (bs : List Bool) (at_ : Int) : List Nat × Nat × Nat :=
  if mayPlan T P then (if at_ < 0 ∨ (bs.length : Int) < at_ then ([], 0, 2) else getGo T bs ((((T.getD 0 []).length : Nat) : Int) - 1) P [] at_.toNat) else ([], 0, 110)
theorem allP_len (ls : List Nat) (bs : List Bool) (n e : Int) : ∀ f out p, (allP ls bs n e f out p).2.2 = 0 → (out.length : Int) ≤ n → out.length ≤ (allP ls bs n e f out p).1.length ∧ ((allP ls bs n e f out p).1.length : Int) ≤ n ∧
    ((out.length : Int) < n → out.length < (allP ls bs n e f out p).1.length)
  | 0, out, p, h, hn => by simp [allP] at h
  | f + 1, out, p, h, hn => by
    rw [allP] at h ⊢
    by_cases h1 : (out.length : Int) < n
    · rw [if_pos h1] at h ⊢
      by_cases h2 : (nextR ls bs p).2.2 ≠ 0
      · rw [if_pos h2] at h
        exact absurd h h2
      · rw [if_neg h2] at h ⊢
        by_cases h3 : ((nextR ls bs p).1 : Int) = e
        · rw [if_pos h3]
          simp only [List.length_append, List.length_cons, List.length_nil]
          omega
        · rw [if_neg h3] at h ⊢
          have ih := allP_len ls bs n e f _ _ h (by simp only [List.length_append, List.length_cons, List.length_nil]; omega)
          simp only [List.length_append, List.length_cons, List.length_nil] at ih
          omega
    · rw [if_neg h1]
      exact ⟨Nat.le_refl _, hn, fun h => absurd h h1⟩
theorem allR_len (l : List Int) (bs : List Bool) (p : Nat) (e : Int) (h : (allR l bs (p : Int) 50 e).2.2 = 0) : 1 ≤ (allR l bs (p : Int) 50 e).1.length ∧ (allR l bs (p : Int) 50 e).1.length ≤ 50 := by
  unfold allR at h ⊢
  split at h
  · rename_i hg
    rw [if_pos hg]
    split at h
    · simp at h
    · rename_i hb
      rw [if_neg hb]
      rw [Int.toNat_natCast] at h ⊢
      obtain ⟨-, h2, h3⟩ := allP_len (natsOf l) bs 50 e _ [] _ h (by simp)
      have h4 := h3 (by simp)
      simp only [List.length_nil] at h4
      omega
  · simp at h
theorem allP_to (ls : List Nat) (bs : List Bool) (n e : Int) : ∀ f out p, p ≤ bs.length → (allP ls bs n e f out p).2.2 = 0 → (allP ls bs n e f out p).2.1 ≤ bs.length
  | 0, out, p, hp, h => by simp [allP] at h
  | f + 1, out, p, hp, h => by
    rw [allP] at h ⊢
    by_cases h1 : (out.length : Int) < n
    · rw [if_pos h1] at h ⊢
      by_cases h2 : (nextR ls bs p).2.2 ≠ 0
      · rw [if_pos h2] at h
        exact absurd h h2
      · have h4 := (nextR_to ls bs p (by omega)).2
        rw [if_neg h2] at h ⊢
        by_cases h3 : ((nextR ls bs p).1 : Int) = e
        · rw [if_pos h3]
          exact h4
        · rw [if_neg h3] at h ⊢
          exact allP_to ls bs n e f _ _ h4 h
    · rw [if_neg h1]
      exact hp
theorem allR_to (l : List Int) (bs : List Bool) (p : Nat) (e : Int) (h : (allR l bs (p : Int) 50 e).2.2 = 0) : (allR l bs (p : Int) 50 e).2.1 ≤ bs.length := by
  unfold allR at h ⊢
  split at h
  · rename_i hg
    rw [if_pos hg]
    split at h
    · simp at h
    · rename_i hb
      rw [if_neg hb]
      rw [Int.toNat_natCast] at h ⊢
      exact allP_to (natsOf l) bs 50 e _ [] _ (by omega) h
  · simp at h
end K
end Go.Proofs.Ytdaenajhgbagdaa
namespace Go.Proofs.Ytdaenajhgbagdaa
namespace K
set_option linter.unusedVariables false
set_option linter.unusedSimpArgs false

/-- Symbol by symbol: f are left, i were read. -/
def rgetGo (T : List (List Int)) (bs : List Bool) (en : Int) (P : List Int) : Nat → Nat → List Nat → Nat → List Nat × Nat × Nat
  | 0, _, _, _ => ([], 0, 110)
  | f + 1, i, out, p =>
    let R := nextR (natsOf (T.getD (P.getD (i / 50) 0).toNat [])) bs p
    if R.2.2 ≠ 0 then ([], 0, R.2.2) else if (R.1 : Int) = en then (out ++ [R.1], R.2.1, 0) else rgetGo T bs en P f (i + 1) (out ++ [R.1]) R.2.1
/-- What follows a group that was read. -/
def behindG (T : List (List Int)) (bs : List Bool) (en : Int) (P : List Int) (f i : Nat) (out : List Nat) (A : List Nat × Nat × Nat) : List Nat × Nat × Nat :=
  if A.2.2 ≠ 0 then ([], 0, A.2.2) else if ((A.1.getD (A.1.length - 1) 0 : Nat) : Int) = en then (out ++ A.1, A.2.1, 0) else rgetGo T bs en P f i (out ++ A.1) A.2.1
theorem rget_group (T : List (List Int)) (bs : List Bool) (en : Int) (P : List Int) (k r : Nat) (ls : List Nat) (hls : natsOf (T.getD (P.getD k 0).toNat []) = ls) (out : List Nat) :
    ∀ (f : Nat) (L : List Nat) (p : Nat), p ≤ bs.length → bs.length + 1 ≤ f + p → L.length ≤ 50 → (L ≠ [] → ((L.getD (L.length - 1) 0 : Nat) : Int) ≠ en) → (L.length = 50 → True) →
      (L = [] → 0 < 50) →
      rgetGo T bs en P (r + (50 - L.length)) (50 * k + L.length) (out ++ L) p = behindG T bs en P r (50 * (k + 1)) out (allP ls bs 50 en f L p)
  | 0, L, p, hp, hf, hL, hn, _, _ => by omega
  | f + 1, L, p, hp, hf, hL, hn, _, _ => by
    by_cases h50 : L.length = 50
    · rw [allP_done _ _ _ _ _ _ _ (by omega)]
      have hne : L ≠ [] := by intro h; rw [h] at h50; simp at h50
      unfold behindG
      rw [if_neg (by simp), if_neg (hn hne), h50]
      rfl
    · have hlt : (L.length : Int) < 50 := by omega
      have hd : (50 * k + L.length) / 50 = k := by omega
      rw [show r + (50 - L.length) = (r + (50 - (L.length + 1))) + 1 by omega, rgetGo, hd, hls]
      by_cases hz : (nextR ls bs p).2.2 = 0
      · obtain ⟨h1, h2⟩ := nextR_to ls bs p hz
        rw [if_neg (by rw [hz]; simp)]
        by_cases he : ((nextR ls bs p).1 : Int) = en
        · rw [if_pos he, allP_end ls bs 50 en f L p (nextR ls bs p).1 (nextR ls bs p).2.1 hlt (by rw [← hz]) he]
          unfold behindG
          rw [if_neg (by simp), if_pos (by simpa using he), List.append_assoc]
        · rw [if_neg he, allP_more ls bs 50 en f L p (nextR ls bs p).1 (nextR ls bs p).2.1 hlt (by rw [← hz]) he]
          have ih := rget_group T bs en P k r ls hls out f (L ++ [(nextR ls bs p).1]) (nextR ls bs p).2.1 h2 (by omega) (by simp only [List.length_append, List.length_cons, List.length_nil]; omega) (by intro _; simpa using he) (fun _ => trivial) (fun _ => by omega)
          rw [List.length_append, List.length_cons, List.length_nil, ← List.append_assoc] at ih
          rw [← ih]
          rfl
      · rw [if_pos hz, allP_err ls bs 50 en f L p (nextR ls bs p).2.2 hlt (nextR_err ls bs p hz) hz]
        unfold behindG
        rw [if_pos hz]
theorem rget_get (T : List (List Int)) (bs : List Bool) (en : Int) (P : List Int) (hg : ∀ x ∈ P, goodL (T.getD x.toNat []) = true) :
    ∀ (m k : Nat) (out : List Nat) (p : Nat), m + k = P.length → p ≤ bs.length → rgetGo T bs en P (50 * m) (50 * k) out p = getGo T bs en (P.drop k) out p
  | 0, k, out, p, hk, hp => by rw [List.drop_of_length_le (by omega)]; rfl
  | m + 1, k, out, p, hk, hp => by
    obtain ⟨x, hx⟩ : ∃ x, P[k]? = some x := ⟨_, List.getElem?_eq_getElem (by omega)⟩
    have hgd : P.getD k 0 = x := by rw [List.getD, hx]; rfl
    obtain ⟨hl2, hv2⟩ := List.getElem?_eq_some_iff.1 hx
    have hgx := hg x (List.mem_of_getElem? hx)
    have G := rget_group T bs en P k (50 * m) (natsOf (T.getD x.toNat [])) (by rw [hgd]) out (bs.length + 1) [] p hp (by omega) (by simp) (fun h => absurd rfl h) (fun _ => trivial) (fun _ => by omega)
    rw [List.length_nil, List.append_nil] at G
    rw [show 50 * (m + 1) = 50 * m + (50 - 0) by omega]
    have G' : rgetGo T bs en P (50 * m + (50 - 0)) (50 * k) out p = _ := G
    rw [G', List.drop_eq_getElem_cons hl2, hv2, getGo]
    have hA : allR (T.getD x.toNat []) bs (p : Int) 50 en = allP (natsOf (T.getD x.toNat [])) bs 50 en (bs.length + 1) [] p := by
      unfold allR
      rw [if_pos hgx, if_neg (by omega), Int.toNat_natCast]
    simp only [hA]
    unfold behindG
    by_cases h0 : (allP (natsOf (T.getD x.toNat [])) bs 50 en (bs.length + 1) [] p).2.2 ≠ 0
    · rw [if_pos h0, if_pos h0]
    · rw [if_neg h0, if_neg h0]
      by_cases h1 : (((allP (natsOf (T.getD x.toNat [])) bs 50 en (bs.length + 1) [] p).1.getD ((allP (natsOf (T.getD x.toNat [])) bs 50 en (bs.length + 1) [] p).1.length - 1) 0 : Nat) : Int) = en
      · rw [if_pos h1, if_pos h1]
      · rw [if_neg h1, if_neg h1]
        exact rget_get T bs en P hg m (k + 1) _ _ (by omega) (allP_to (natsOf (T.getD x.toNat [])) bs 50 en _ [] _ hp (by simpa using h0))
end K
end Go.Proofs.Ytdaenajhgbagdaa
namespace Go.Proofs.Ytdaenajhgbagdaa
namespace K
set_option linter.unusedVariables false
set_option linter.unusedSimpArgs false

/-- The picks that stand from a place on: m are left. -/
def picksG (bs : List Bool) (many : Nat) : Nat → List Nat → List Nat → Nat → List Nat × Nat × Nat
  | 0, _, out, p => (out, p, 0)
  | m + 1, o, out, p =>
    let R := unary ((many : Int) - 1) 0 (bs.drop p)
    if R.2 = 0 then picksG bs many m (turned o R.1) (out ++ [o.getD R.1 0]) (p + R.1 + 1) else ([], 0, if R.2 = 3 then 110 else R.2)
/-- The tables behind them: m are left. -/
def tabsG (bs : List Bool) (n : Int) : Nat → List (List Int) → Nat → List (List Int) × Nat × Nat
  | 0, out, p => (out, p, 0)
  | m + 1, out, p =>
    let R := lensR bs (p : Int) n
    if R.2.2 ≠ 0 then ([], 0, R.2.2) else if goodL R.1 then tabsG bs n m (out ++ [R.1]) R.2.1 else ([], 0, 80)
/-- What Take answers: tables, picks, place, error. -/
def takeGR (bs : List Bool) (at_ n : Int) : List (List Int) × List Nat × Nat × Nat :=
  if at_ < 0 ∨ (bs.length : Int) < at_ ∨ n < 3 ∨ 258 < n then ([], [], 0, 2) else
  let A := takeR bs at_.toNat 3
  if A.2 ≠ 0 then ([], [], 0, A.2) else if A.1 < 2 ∨ 6 < A.1 then ([], [], 0, 110) else
  let B := takeR bs (at_.toNat + 3) 15
  if B.2 ≠ 0 then ([], [], 0, B.2) else if B.1 = 0 then ([], [], 0, 110) else
  let C := picksG bs A.1 B.1 (List.range A.1) [] (at_.toNat + 18)
  if C.2.2 ≠ 0 then ([], [], 0, C.2.2) else
  let D := tabsG bs n A.1 [] C.2.1
  if D.2.2 ≠ 0 then ([], [], 0, D.2.2) else (D.1, C.1, D.2.1, 0)
/-- The table of symbol i. -/
def tabAt (T : List (List Int)) (P : List Int) (i : Nat) : List Nat := natsOf (T.getD (P.getD (i / 50) 0).toNat [])
/-- Symbols in codes, from the i-th on. -/
def codG (T : List (List Int)) (P : List Int) (n : Int) : Nat → List Int → Option (List Bool)
  | _, [] => some []
  | i, s :: r => if s < 0 ∨ n ≤ s then none else (codG T P n (i + 1) r).map (symP (tabAt T P i) s.toNat ++ ·)
def codR (T : List (List Int)) (P list : List Int) : List Bool × Nat :=
  if mayPlan T P && decide (groupsN list.length ≤ P.length) then match codG T P ((T.getD 0 []).length : Nat) 0 list with | none => ([], 60) | some B => (B, 0) else ([], 110)
def putGR (T : List (List Int)) (P list : List Int) : List UInt8 × Int × Nat := if (codR T P list).2 = 0 then (pack (codR T P list).1, (((codR T P list).1.length : Nat) : Int), 0) else ([], 0, (codR T P list).2)
def sizeGR (T : List (List Int)) (P list : List Int) : Nat × Nat := if (codR T P list).2 = 0 then ((planBits T P).length + (codR T P list).1.length, 0) else (0, (codR T P list).2)
theorem codG_none (T : List (List Int)) (P : List Int) (n : Int) : ∀ (l : List Int) (i : Nat), (∃ s ∈ l, s < 0 ∨ n ≤ s) → codG T P n i l = none
  | [], i, h => by obtain ⟨s, hs, -⟩ := h; cases hs
  | x :: r, i, h => by
    rw [codG]
    split
    · rfl
    · rename_i hx
      obtain ⟨s, hs, h2⟩ := h
      rcases List.mem_cons.1 hs with rfl | hs
      · exact absurd h2 hx
      · rw [codG_none T P n r (i + 1) ⟨s, hs, h2⟩]; rfl
theorem codG_some (T : List (List Int)) (P : List Int) (n : Int) : ∀ (l : List Int) (i : Nat), (∀ s ∈ l, 0 ≤ s ∧ s < n) → ∃ B, codG T P n i l = some B
  | [], i, h => ⟨[], rfl⟩
  | x :: r, i, h => by
    have hx := h x (by simp)
    obtain ⟨B, hB⟩ := codG_some T P n r (i + 1) fun s hs => h s (by simp [hs])
    rw [codG, if_neg (by omega), hB]
    exact ⟨_, rfl⟩
theorem codG_snoc (T : List (List Int)) (P : List Int) (n : Int) (x : Int) (hx : 0 ≤ x ∧ x < n) : ∀ (l : List Int) (i : Nat) (B : List Bool), codG T P n i l = some B → codG T P n i (l ++ [x]) = some (B ++ symP (tabAt T P (i + l.length)) x.toNat)
  | [], i, B, h => by
    rw [codG] at h
    injection h with h
    subst h
    rw [List.nil_append, codG, if_neg (by omega), codG]
    simp
  | y :: r, i, B, h => by
    rw [codG] at h
    split at h
    · cases h
    · rename_i hy
      cases hr : codG T P n (i + 1) r with
      | none => rw [hr] at h; cases h
      | some C =>
        rw [hr] at h
        injection h with h
        have ih := codG_snoc T P n x hx r (i + 1) C hr
        rw [List.cons_append, codG, if_neg hy, ih, ← h, List.length_cons, show i + 1 + r.length = i + (r.length + 1) by omega]
        simp
theorem tabAt_le {T : List (List Int)} {P : List Int} (h : mayPlan T P = true) (i s : Nat) : (symP (tabAt T P i) s).length ≤ 20 := by
  obtain ⟨-, -, h3, -⟩ := mayPlan_get h
  rw [symP_length]
  unfold tabAt
  cases hT : T[(P.getD (i / 50) 0).toNat]? with
  | none =>
    have e : T.getD (P.getD (i / 50) 0).toNat [] = [] := by rw [List.getD, hT]; rfl
    rw [e]
    simp [natsOf]
  | some t =>
    have e : T.getD (P.getD (i / 50) 0).toNat [] = t := by rw [List.getD, hT]; rfl
    rw [e, List.getD]
    cases hs : (natsOf t)[s]? with
    | none => simp
    | some v => exact (goodL_in (h3 t (List.mem_of_getElem? hT)).2.2 v (List.mem_of_getElem? hs)).2
theorem codG_len {T : List (List Int)} {P : List Int} (h : mayPlan T P = true) (n : Int) : ∀ (l : List Int) (i : Nat) (B : List Bool), codG T P n i l = some B → B.length ≤ 20 * l.length
  | [], i, B, hB => by rw [codG] at hB; injection hB with hB; subst hB; simp
  | y :: r, i, B, hB => by
    rw [codG] at hB
    split at hB
    · cases hB
    · cases hr : codG T P n (i + 1) r with
      | none => rw [hr] at hB; cases hB
      | some C =>
        rw [hr] at hB
        injection hB with hB
        have ih := codG_len h n r (i + 1) C hr
        have := tabAt_le h i y.toNat
        rw [← hB, List.length_append, List.length_cons]
        omega
end K
end Go.Proofs.Ytdaenajhgbagdaa
