/-
  Layer 6 in plain words: the bytes in use, places in a list whose last used one is moved to the front, rows of bits.
-/
import Derived.Test.YtcjkjknahalpnaaPlainC
namespace Go.Proofs.Ytcjkjknahalpnaa
namespace K
set_option linter.unusedVariables false
set_option linter.unusedSectionVars false
set_option linter.unusedSimpArgs false

/-! ### The bytes in use -/
/-- Those of a text's bytes that are below n, rising. -/
def usesTo (s : List UInt8) (n : Nat) : List UInt8 := ((List.range n).map UInt8.ofNat).filter fun b => decide (b ∈ s)
def uses (s : List UInt8) : List UInt8 := usesTo s 256
theorem usesTo_zero (s : List UInt8) : usesTo s 0 = [] := rfl
theorem usesTo_yes (s : List UInt8) (n : Nat) (h : UInt8.ofNat n ∈ s) : usesTo s (n + 1) = usesTo s n ++ [UInt8.ofNat n] := by
  unfold usesTo; rw [List.range_succ, List.map_append, List.filter_append]; simp [h]
theorem usesTo_no (s : List UInt8) (n : Nat) (h : UInt8.ofNat n ∉ s) : usesTo s (n + 1) = usesTo s n := by
  unfold usesTo; rw [List.range_succ, List.map_append, List.filter_append]; simp [h]
theorem usesTo_length (s : List UInt8) (n : Nat) : (usesTo s n).length ≤ n := by
  unfold usesTo
  exact Nat.le_trans (List.length_filter_le _ _) (by simp)
theorem allB_rises : ((List.range 256).map UInt8.ofNat).Pairwise (· < ·) := by decide +kernel
theorem uses_rises (s : List UInt8) : (uses s).Pairwise (· < ·) := allB_rises.sublist List.filter_sublist
theorem mem_uses (s : List UInt8) (b : UInt8) : b ∈ uses s ↔ b ∈ s := by
  unfold uses usesTo
  simp only [List.mem_filter, List.mem_map, List.mem_range, decide_eq_true_eq]
  constructor
  · exact fun h => h.2
  · exact fun h => ⟨⟨b.toNat, UInt8.toNat_lt b, by simp⟩, h⟩
theorem rises_nodup {l : List UInt8} (h : l.Pairwise (· < ·)) : l.Nodup := h.imp fun {a b} hab he => by rw [he] at hab; exact absurd hab (UInt8.lt_irrefl b)
theorem uses_same (l : List UInt8) : uses l = l ↔ l.Pairwise (· < ·) := by
  constructor
  · intro h; rw [← h]; exact uses_rises l
  · intro h
    refine List.Perm.eq_of_pairwise (le := (· < ·)) (fun a b _ _ h1 h2 => absurd (UInt8.lt_trans h1 h2) (UInt8.lt_irrefl a)) (uses_rises l) h ?_
    exact (List.perm_ext_iff_of_nodup (rises_nodup (uses_rises l)) (rises_nodup h)).2 (mem_uses l)
theorem uses_uses (s : List UInt8) : uses (uses s) = uses s := (uses_same _).2 (uses_rises s)
/-- May symbols be? -/
def mayS (l : List UInt8) : Bool := decide (l ≠ []) && decide (uses l = l)
theorem mayS_uses (s : List UInt8) (h : s ≠ []) : mayS (uses s) = true := by
  unfold mayS
  have : uses s ≠ [] := by
    obtain ⟨b, hb⟩ := List.exists_mem_of_ne_nil _ h
    exact fun he => by have := (mem_uses s b).2 hb; rw [he] at this; cases this
  simp [this, uses_uses]
theorem mayS_nil : mayS [] = false := rfl
theorem mayS_rises (l : List UInt8) (h0 : l ≠ []) (h : ∀ i, i + 1 < l.length → l.getD i 0 < l.getD (i + 1) 0) : mayS l = true := by
  have key : ∀ d i, i + d + 1 < l.length → l.getD i 0 < l.getD (i + d + 1) 0 := by
    intro d
    induction d with
    | zero => exact fun i hi => h i hi
    | succ d ih => exact fun i hi => UInt8.lt_trans (ih i (by omega)) (h (i + d + 1) hi)
  have hp : l.Pairwise (· < ·) := by
    rw [List.pairwise_iff_getElem]
    intro i j hi hj hij
    have := key (j - i - 1) i (by omega)
    rw [show i + (j - i - 1) + 1 = j by omega, List.getD, List.getD, List.getElem?_eq_getElem hi, List.getElem?_eq_getElem hj] at this
    exact this
  unfold mayS
  simp [h0, (uses_same l).2 hp]
theorem mayS_falls (l : List UInt8) (i : Nat) (hi : i + 1 < l.length) (h : ¬ l.getD i 0 < l.getD (i + 1) 0) : mayS l = false := by
  have : uses l ≠ l := by
    intro he
    have hp := (uses_same l).1 he
    rw [List.pairwise_iff_getElem] at hp
    have := hp i (i + 1) (by omega) hi (by omega)
    rw [List.getD, List.getD, List.getElem?_eq_getElem hi, List.getElem?_eq_getElem (show i < l.length by omega)] at h
    exact h this
  unfold mayS
  simp [this]

/-! ### To the front -/
section
variable {α : Type} [Inhabited α]
/-- What stands at a place, moved to the front. -/
def turned (l : List α) (p : Nat) : List α := l.getD p default :: l.eraseIdx p
theorem turned_length (l : List α) (p : Nat) (h : p < l.length) : (turned l p).length = l.length := by
  unfold turned; rw [List.length_cons, List.length_eraseIdx_of_lt h]; omega
theorem turned_mem (l : List α) (p : Nat) (h : p < l.length) (b : α) : b ∈ turned l p ↔ b ∈ l := by
  have e : l = l.take p ++ l[p] :: l.drop (p + 1) := by rw [← List.drop_eq_getElem_cons h, List.take_append_drop]
  have hp : (turned l p).Perm l := by
    unfold turned
    rw [List.eraseIdx_eq_take_drop_succ, List.getD, List.getElem?_eq_getElem h]
    conv => rhs; rw [e]
    exact List.perm_middle.symm
  exact hp.mem_iff
theorem turned_eq (l : List α) (p : Nat) : turned l p = l.getD p default :: (l.take p ++ l.drop (p + 1)) := by
  unfold turned; rw [List.eraseIdx_eq_take_drop_succ]
variable [BEq α] [LawfulBEq α]
/-- The places of bytes in a list whose last used one is moved to the front. -/
def front (l : List α) : List α → Option (List Nat)
  | [] => some []
  | b :: s => if l.idxOf b = l.length then none else (front (turned l (l.idxOf b)) s).map (l.idxOf b :: ·)
/-- What stands at such places. -/
def back (l : List α) : List Int → Option (List α)
  | [] => some []
  | p :: ps => if p < 0 ∨ (l.length : Int) ≤ p then none else (back (turned l p.toNat) ps).map (l.getD p.toNat default :: ·)
theorem idxOf_getD (l : List α) (b : α) (h : l.idxOf b < l.length) : l.getD (l.idxOf b) default = b := by
  rw [List.getD, List.getElem?_eq_getElem h]; exact List.getElem_idxOf h
theorem back_front (s : List α) : ∀ (l : List α) (ps : List Nat), front l s = some ps → back l (ps.map fun p : Nat => (p : Int)) = some s := by
  induction s with
  | nil => intro l ps h; simp [front] at h; subst h; rfl
  | cons b s ih =>
    intro l ps h
    have hle : l.idxOf b ≤ l.length := List.idxOf_le_length
    rw [front] at h
    split at h
    · cases h
    · rename_i hne
      have hlt : l.idxOf b < l.length := by omega
      cases hf : front (turned l (l.idxOf b)) s with
      | none => rw [hf] at h; cases h
      | some qs =>
        rw [hf] at h
        obtain rfl : l.idxOf b :: qs = ps := by simpa using h
        have := ih _ _ hf
        rw [List.map_cons, back, if_neg (by omega), Int.toNat_natCast, this, idxOf_getD l b hlt]
        rfl
theorem front_some (s : List α) : ∀ (l : List α), (∀ b ∈ s, b ∈ l) → ∃ ps, front l s = some ps := by
  induction s with
  | nil => exact fun l _ => ⟨[], rfl⟩
  | cons b s ih =>
    intro l h
    have hlt := List.idxOf_lt_length_of_mem (h b (by simp))
    obtain ⟨ps, hps⟩ := ih (turned l (l.idxOf b)) (fun c hc => (turned_mem l _ hlt c).2 (h c (by simp [hc])))
    exact ⟨l.idxOf b :: ps, by rw [front, if_neg (by omega), hps]; rfl⟩
theorem front_length (s : List α) : ∀ (l : List α) (ps : List Nat), front l s = some ps → ps.length = s.length := by
  induction s with
  | nil => intro l ps h; simp [front] at h; subst h; rfl
  | cons b s ih =>
    intro l ps h
    rw [front] at h
    split at h
    · cases h
    · cases hf : front (turned l (l.idxOf b)) s with
      | none => rw [hf] at h; cases h
      | some qs =>
        rw [hf] at h
        obtain rfl : l.idxOf b :: qs = ps := by simpa using h
        simp [ih _ _ hf]
/-- A place is 0 just where a byte is the one ahead of it. -/
theorem front_zero (s : List α) : ∀ (l : List α) (ps : List Nat), front l s = some ps → ∀ i, i + 1 < s.length → (ps.getD (i + 1) 0 = 0 ↔ s.getD (i + 1) default = s.getD i default) := by
  induction s with
  | nil => intro l ps h i hi; simp at hi
  | cons b s ih =>
    intro l ps h i hi
    have hle : l.idxOf b ≤ l.length := List.idxOf_le_length
    rw [front] at h
    split at h
    · cases h
    · rename_i hne
      have hlt : l.idxOf b < l.length := by omega
      cases hf : front (turned l (l.idxOf b)) s with
      | none => rw [hf] at h; cases h
      | some qs =>
        rw [hf] at h
        obtain rfl : l.idxOf b :: qs = ps := by simpa using h
        cases i with
        | succ i =>
          have := ih _ _ hf i (by simpa using hi)
          simpa using this
        | zero =>
          cases s with
          | nil => simp at hi
          | cons c s =>
            rw [front] at hf
            split at hf
            · cases hf
            · cases hg : front (turned (turned l (l.idxOf b)) ((turned l (l.idxOf b)).idxOf c)) s with
              | none => rw [hg] at hf; cases hf
              | some rs =>
                rw [hg] at hf
                obtain rfl := (by simpa using hf : (turned l (l.idxOf b)).idxOf c :: rs = qs)
                have hb := idxOf_getD l b hlt
                simp only [List.getD_cons_succ, List.getD_cons_zero]
                unfold turned
                rw [hb, List.idxOf_cons]
                by_cases hbc : b = c
                · subst hbc; simp
                · have : (b == c) = false := by simpa using hbc
                  rw [this]
                  simp only [Bool.false_eq_true, cond_false, if_false]
                  constructor
                  · intro h; omega
                  · intro h; exact absurd h.symm hbc
theorem front_cons (l : List α) (b : α) (s : List α) (h : l.idxOf b < l.length) : front l (b :: s) = (front (turned l (l.idxOf b)) s).map (l.idxOf b :: ·) := by
  rw [front, if_neg (by omega)]
theorem front_none (l : List α) (b : α) (s : List α) (h : l.idxOf b = l.length) : front l (b :: s) = none := by
  rw [front, if_pos h]
theorem map_map_cons {β : Type} (o : Option (List β)) (A : List β) (x : β) : (o.map (x :: ·)).map (A ++ ·) = o.map (A ++ [x] ++ ·) := by
  cases o <;> simp
end
/-- Front's answer. -/
def frontR (s all : List UInt8) : List Nat × Nat := if mayS all then match front all s with | none => ([], 60) | some l => (l, 0) else ([], 2)
/-- Back's. -/
def backR (l : List Int) (all : List UInt8) : List UInt8 × Nat := if mayS all then match back all l with | none => ([], 60) | some s => (s, 0) else ([], 2)

/-! ### In bits -/
theorem num_testBit (bs : List Bool) : ∀ j, j < bs.length → (num bs).testBit j = bs.getD (bs.length - 1 - j) false := by
  suffices h : ∀ n (bs : List Bool), bs.length = n → ∀ j, j < n → (num bs).testBit j = bs.getD (n - 1 - j) false by
    intro j hj; exact h _ bs rfl j hj
  intro n
  induction n with
  | zero => intro bs _ j hj; omega
  | succ n ih =>
    intro bs hl j hj
    have hne : bs ≠ [] := by intro h; simp [h] at hl
    have e := List.dropLast_concat_getLast hne
    have hd : bs.dropLast.length = n := by simp [hl]
    rw [← e, num_snoc]
    cases j with
    | zero =>
      rw [show n + 1 - 1 - 0 = bs.dropLast.length by omega]
      cases bs.getLast hne <;> simp [List.getD]
    | succ j =>
      rw [Nat.testBit_succ, show (2 * num bs.dropLast + (bs.getLast hne).toNat) / 2 = num bs.dropLast by have := Bool.toNat_le (bs.getLast hne); omega, ih _ hd j (by omega)]
      rw [List.getD, List.getD, List.getElem?_append_left (by omega), show n + 1 - 1 - (j + 1) = n - 1 - j by omega]
theorem low_num (bs : List Bool) : low (num bs) bs.length = bs := by
  apply List.ext_getElem?
  intro k
  by_cases hk : k < bs.length
  · rw [low_succ_get _ _ _ hk, num_testBit bs _ (by omega), show bs.length - 1 - (bs.length - 1 - k) = k by omega, List.getD, List.getElem?_eq_getElem hk]
    rfl
  · rw [List.getElem?_eq_none (by rw [low_length]; omega), List.getElem?_eq_none (by omega)]
/-- A number whose bits, the highest of n first, a function tells. -/
def mask (f : Nat → Bool) (n : Nat) : Nat := num ((List.range n).map f)
theorem mask_lt (f : Nat → Bool) (n : Nat) : mask f n < 2 ^ n := by have := num_lt ((List.range n).map f); simpa [mask] using this
theorem mask_low (f : Nat → Bool) (n : Nat) : low (mask f n) n = (List.range n).map f := by
  have := low_num ((List.range n).map f)
  simpa [mask] using this
theorem mask_bit (f : Nat → Bool) (n k : Nat) (h : k < n) : (mask f n).testBit (n - 1 - k) = f k := by
  unfold mask
  rw [num_testBit _ _ (by simp; omega)]
  simp [List.getD, show n - 1 - (n - 1 - k) = k by omega, List.getElem?_range h]
theorem mask_ext (x : Nat) (f : Nat → Bool) (n : Nat) (hx : x < 2 ^ n) (h : ∀ k, k < n → x.testBit (n - 1 - k) = f k) : x = mask f n := by
  apply Nat.eq_of_testBit_eq
  intro j
  by_cases hj : j < n
  · have h1 := h (n - 1 - j) (by omega)
    have h2 := mask_bit f n (n - 1 - j) (by omega)
    rw [show n - 1 - (n - 1 - j) = j by omega] at h1 h2
    rw [h1, h2]
  · have hp : 2 ^ n ≤ 2 ^ j := Nat.pow_le_pow_right (by decide) (by omega)
    rw [Nat.testBit_lt_two_pow (by omega), Nat.testBit_lt_two_pow (by have := mask_lt f n; omega)]
theorem mask_set (f g : Nat → Bool) (n p : Nat) (hp : p < n) (hg : ∀ k, k < n → g k = (f k || decide (k = p))) : mask f n ||| 2 ^ (n - 1 - p) = mask g n := by
  refine mask_ext _ _ _ (Nat.or_lt_two_pow (mask_lt f n) (Nat.pow_lt_pow_right (by decide) (by omega))) fun k hk => ?_
  rw [Nat.testBit_or, mask_bit f n k hk, hg k hk, Nat.testBit_two_pow]
  congr 1
  rw [Bool.eq_iff_iff]; simp; omega
theorem mask_congr (f g : Nat → Bool) (n : Nat) (h : ∀ k, k < n → f k = g k) : mask f n = mask g n := by
  unfold mask; congr 1; exact List.map_congr_left fun k hk => h k (List.mem_range.1 hk)
theorem mask_none (n : Nat) : mask (fun _ => false) n = 0 := by
  have : (0 : Nat) = mask (fun _ => false) n := mask_ext 0 _ n (Nat.two_pow_pos n) (fun k hk => by simp)
  exact this.symm
theorem mask_zero (f : Nat → Bool) (n : Nat) : mask f n = 0 ↔ ∀ k, k < n → f k = false := by
  constructor
  · intro h k hk
    have := mask_bit f n k hk
    rw [h] at this
    simpa using this.symm
  · intro h
    rw [mask_congr f (fun _ => false) n h, mask_none]

/-- Is byte number 16 i + k among them? -/
def has (l : List UInt8) (i k : Nat) : Bool := decide (UInt8.ofNat (16 * i + k) ∈ l)
def rowBits (l : List UInt8) (i : Nat) : List Bool := (List.range 16).map (has l i)
def rowUsed (l : List UInt8) (i : Nat) : Bool := (List.range 16).any (has l i)
def rowNum (l : List UInt8) (i : Nat) : Nat := mask (has l i) 16
theorem rowBits_length (l : List UInt8) (i : Nat) : (rowBits l i).length = 16 := by simp [rowBits]
theorem rowNum_zero (l : List UInt8) (i : Nat) : rowNum l i = 0 ↔ rowUsed l i = false := by
  unfold rowNum rowUsed
  rw [mask_zero, List.any_eq_false]
  simp
theorem rowNum_low (l : List UInt8) (i : Nat) : low (rowNum l i) 16 = rowBits l i := mask_low _ _
theorem has_snoc (l : List UInt8) (b : UInt8) (i k : Nat) (hi : i < 16) (hk : k < 16) : has (l ++ [b]) i k = (has l i k || decide (i = b.toNat / 16 ∧ k = b.toNat % 16)) := by
  unfold has
  rw [Bool.eq_iff_iff]
  simp only [List.mem_append, List.mem_singleton, decide_eq_true_eq, Bool.or_eq_true]
  refine or_congr Iff.rfl ?_
  constructor
  · intro h
    have := congrArg UInt8.toNat h
    rw [UInt8.toNat_ofNat'] at this
    omega
  · rintro ⟨rfl, rfl⟩
    rw [Nat.div_add_mod]
    simp
theorem rowNum_snoc (l : List UInt8) (b : UInt8) : rowNum (l ++ [b]) (b.toNat / 16) = rowNum l (b.toNat / 16) ||| 2 ^ (15 - b.toNat % 16) := by
  have hb := UInt8.toNat_lt b
  refine (mask_set (has l (b.toNat / 16)) _ 16 (b.toNat % 16) (by omega) fun k hk => ?_).symm
  rw [has_snoc l b _ k (by omega) hk]
  simp
theorem rowNum_other (l : List UInt8) (b : UInt8) (i : Nat) (hi : i < 16) (h : i ≠ b.toNat / 16) : rowNum (l ++ [b]) i = rowNum l i := by
  refine mask_congr _ _ _ fun k hk => ?_
  rw [has_snoc l b i k hi hk]
  simp [h]
/-- The first n of the sixteen bits that say which rows there are, as a number. -/
def headNum (l : List UInt8) (n : Nat) : Nat := mask (fun i => decide (i < n) && rowUsed l i) 16
theorem headNum_zero (l : List UInt8) : headNum l 0 = 0 := by unfold headNum; simp [mask_none]
theorem headNum_yes (l : List UInt8) (n : Nat) (hn : n < 16) (h : rowUsed l n = true) : headNum l (n + 1) = headNum l n ||| 2 ^ (15 - n) := by
  refine (mask_set _ _ 16 n hn fun k hk => ?_).symm
  rw [Bool.eq_iff_iff]
  simp only [Bool.and_eq_true, Bool.or_eq_true, decide_eq_true_eq]
  constructor
  · rintro ⟨h1, h2⟩
    by_cases hk : k = n
    · exact .inr hk
    · exact .inl ⟨by omega, h2⟩
  · rintro (⟨h1, h2⟩ | rfl)
    · exact ⟨by omega, h2⟩
    · exact ⟨by omega, h⟩
theorem headNum_no (l : List UInt8) (n : Nat) (h : rowUsed l n = false) : headNum l (n + 1) = headNum l n := by
  refine mask_congr _ _ _ fun k hk => ?_
  rw [Bool.eq_iff_iff]
  simp only [Bool.and_eq_true, decide_eq_true_eq]
  constructor
  · rintro ⟨h1, h2⟩
    refine ⟨?_, h2⟩
    rcases Nat.lt_or_ge k n with h' | h'
    · exact h'
    · obtain rfl : k = n := by omega
      rw [h] at h2; cases h2
  · rintro ⟨h1, h2⟩
    exact ⟨by omega, h2⟩
def headBits (l : List UInt8) : List Bool := (List.range 16).map (rowUsed l)
theorem headBits_length (l : List UInt8) : (headBits l).length = 16 := by simp [headBits]
theorem headNum_low (l : List UInt8) : low (headNum l 16) 16 = headBits l := by
  unfold headNum headBits
  rw [mask_low]
  exact List.map_congr_left fun i hi => by simp [List.mem_range.1 hi]
theorem headNum_lt (l : List UInt8) (n : Nat) : headNum l n < 65536 := mask_lt _ 16
theorem rowNum_lt (l : List UInt8) (n : Nat) : rowNum l n < 65536 := mask_lt _ 16
/-- The rows that there are, of the first n. -/
def rowsBits (l : List UInt8) (n : Nat) : List Bool := (List.range n).flatMap fun i => if rowUsed l i then rowBits l i else []
theorem rowsBits_zero (l : List UInt8) : rowsBits l 0 = [] := rfl
theorem rowsBits_yes (l : List UInt8) (n : Nat) (h : rowUsed l n = true) : rowsBits l (n + 1) = rowsBits l n ++ rowBits l n := by
  unfold rowsBits; rw [List.range_succ, List.flatMap_append]; simp [h]
theorem rowsBits_no (l : List UInt8) (n : Nat) (h : rowUsed l n = false) : rowsBits l (n + 1) = rowsBits l n := by
  unfold rowsBits; rw [List.range_succ, List.flatMap_append]; simp [h]
theorem rowsBits_length (l : List UInt8) (n : Nat) : (rowsBits l n).length ≤ 16 * n := by
  induction n with
  | zero => simp [rowsBits]
  | succ n ih =>
    rcases Bool.eq_false_or_eq_true (rowUsed l n) with h | h
    · rw [rowsBits_yes l n h, List.length_append, rowBits_length]; omega
    · rw [rowsBits_no l n h]; omega
def symBits (l : List UInt8) : List Bool := headBits l ++ rowsBits l 16
theorem symBits_length (l : List UInt8) : (symBits l).length ≤ 272 := by
  unfold symBits; rw [List.length_append, headBits_length]; have := rowsBits_length l 16; omega
/-- Show's answer. -/
def symR (l : List UInt8) : List UInt8 × Int × Nat := if mayS l then (pack (symBits l), (((symBits l).length : Nat) : Int), 0) else ([], 0, 2)

/-! ### Out of bits -/
/-- The bytes of row i that sixteen bits say; of the first n of them. -/
def saidTo (i : Nat) (r : List Bool) (n : Nat) : List UInt8 := ((List.range n).filter fun k => r.getD k false).map fun k => UInt8.ofNat (16 * i + k)
theorem saidTo_yes (i : Nat) (r : List Bool) (n : Nat) (h : r.getD n false = true) : saidTo i r (n + 1) = saidTo i r n ++ [UInt8.ofNat (16 * i + n)] := by
  unfold saidTo; rw [List.range_succ, List.filter_append, List.map_append]
  congr 1
  rw [List.filter_cons, if_pos h]; rfl
theorem saidTo_no (i : Nat) (r : List Bool) (n : Nat) (h : r.getD n false = false) : saidTo i r (n + 1) = saidTo i r n := by
  unfold saidTo; rw [List.range_succ, List.filter_append, List.map_append]
  rw [List.filter_cons, if_neg (by rw [h]; decide)]; simp
theorem saidTo_length (i : Nat) (r : List Bool) (n : Nat) : (saidTo i r n).length ≤ n := by
  unfold saidTo; rw [List.length_map]; exact Nat.le_trans (List.length_filter_le _ _) (by simp)
/-- Rows from number i on (k are left), out of bits from p on. -/
def takeRows (bs : List Bool) (a : Nat → Bool) : Nat → Nat → Nat → List UInt8 → Option (List UInt8 × Nat)
  | 0, _, p, out => some (out, p)
  | k + 1, i, p, out => if a i then (if bs.length < p + 16 then none else takeRows bs a k (i + 1) (p + 16) (out ++ saidTo i (piece bs p 16) 16)) else takeRows bs a k (i + 1) p out
def saidR : Option (List UInt8 × Nat) → List UInt8 × Int × Nat
  | none => ([], 0, 10)
  | some (out, p) => if out = [] then ([], 0, 60) else (out, (p : Int), 0)
/-- Take's answer. -/
def takeSR (bs : List Bool) (at_ : Int) : List UInt8 × Int × Nat :=
  if at_ < 0 ∨ (bs.length : Int) < at_ then ([], 0, 2) else if bs.length < at_.toNat + 16 then ([], 0, 10) else
    saidR (takeRows bs (fun i => bs.getD (at_.toNat + i) false) 16 0 (at_.toNat + 16) [])
theorem saidTo_rows (l : List UInt8) (i n : Nat) (hi : i < 16) (hn : n ≤ 16) : usesTo l (16 * i + n) = usesTo l (16 * i) ++ saidTo i (rowBits l i) n := by
  induction n with
  | zero => simp [saidTo]
  | succ n ih =>
    have ih := ih (by omega)
    have hg : (rowBits l i).getD n false = has l i n := by
      simp [rowBits, List.getD, List.getElem?_range (show n < 16 by omega)]
    rcases Bool.eq_false_or_eq_true (has l i n) with h | h
    · rw [saidTo_yes _ _ _ (hg.trans h), ← List.append_assoc, ← ih]; exact usesTo_yes l (16 * i + n) (of_decide_eq_true h)
    · rw [saidTo_no _ _ _ (hg.trans h), ← ih]; exact usesTo_no l (16 * i + n) (of_decide_eq_false h)
theorem usesTo_none (l : List UInt8) (i : Nat) (hi : i < 16) (h : rowUsed l i = false) : usesTo l (16 * (i + 1)) = usesTo l (16 * i) := by
  have hr := saidTo_rows l i 16 hi (by omega)
  rw [show 16 * (i + 1) = 16 * i + 16 by omega, hr]
  have : saidTo i (rowBits l i) 16 = [] := by
    unfold saidTo
    rw [List.map_eq_nil_iff, List.filter_eq_nil_iff]
    intro k hk
    have hk' := List.mem_range.1 hk
    unfold rowUsed at h
    rw [List.any_eq_false] at h
    have := h k hk
    simpa [rowBits, List.getD, List.getElem?_range hk'] using this
  rw [this, List.append_nil]
/-- The rows that were told are read again. -/
theorem takeRows_told (bs : List Bool) (l : List UInt8) (p : Nat) (hp : ∀ j n, j + n ≤ (rowsBits l 16).length → piece bs (p + j) n = piece (rowsBits l 16) j n) (hl : p + (rowsBits l 16).length ≤ bs.length) :
    ∀ k i, i + k = 16 → takeRows bs (rowUsed l) k i (p + (rowsBits l i).length) (usesTo l (16 * i)) = some (uses l, p + (rowsBits l 16).length) := by
  intro k
  induction k with
  | zero =>
    intro i hi
    have hi : i = 16 := by omega
    subst hi
    rfl
  | succ k ih =>
    intro i hi
    have ih := ih (i + 1) (by omega)
    have hmono : ∀ d, ∃ t, rowsBits l (i + d) = rowsBits l i ++ t := by
      intro d
      induction d with
      | zero => exact ⟨[], by simp⟩
      | succ d ih =>
        obtain ⟨t, ht⟩ := ih
        rcases Bool.eq_false_or_eq_true (rowUsed l (i + d)) with h | h
        · exact ⟨t ++ rowBits l (i + d), by rw [show i + (d + 1) = i + d + 1 by omega, rowsBits_yes _ _ h, ht, List.append_assoc]⟩
        · exact ⟨t, by rw [show i + (d + 1) = i + d + 1 by omega, rowsBits_no _ _ h, ht]⟩
    rw [takeRows]
    rcases Bool.eq_false_or_eq_true (rowUsed l i) with h | h
    · have hy := rowsBits_yes l i h
      obtain ⟨t, ht⟩ : ∃ t, rowsBits l 16 = rowsBits l (i + 1) ++ t := by
        have : ∀ d, ∃ t, rowsBits l (i + 1 + d) = rowsBits l (i + 1) ++ t := by
          intro d
          induction d with
          | zero => exact ⟨[], by simp⟩
          | succ d ih =>
            obtain ⟨t, ht⟩ := ih
            rcases Bool.eq_false_or_eq_true (rowUsed l (i + 1 + d)) with h | h
            · exact ⟨t ++ rowBits l (i + 1 + d), by rw [show i + 1 + (d + 1) = i + 1 + d + 1 by omega, rowsBits_yes _ _ h, ht, List.append_assoc]⟩
            · exact ⟨t, by rw [show i + 1 + (d + 1) = i + 1 + d + 1 by omega, rowsBits_no _ _ h, ht]⟩
        have := this (16 - (i + 1))
        rwa [show i + 1 + (16 - (i + 1)) = 16 by omega] at this
      have hle : (rowsBits l i).length + 16 ≤ (rowsBits l 16).length := by
        rw [ht, hy, List.length_append, List.length_append, rowBits_length]; omega
      rw [if_pos h, if_neg (by omega), hp _ _ hle]
      have e : piece (rowsBits l 16) (rowsBits l i).length 16 = rowBits l i := by
        rw [ht, hy]
        have := piece_append (rowsBits l i) (rowBits l i) t
        rwa [rowBits_length] at this
      rw [e, ← saidTo_rows l i 16 (by omega) (by omega), show 16 * i + 16 = 16 * (i + 1) by omega]
      rw [hy, List.length_append, rowBits_length, ← Nat.add_assoc] at ih
      exact ih
    · have hn := rowsBits_no l i h
      rw [hn, usesTo_none l i (by omega) h] at ih
      rw [if_neg (by rw [h]; decide)]
      exact ih
end K
end Go.Proofs.Ytcjkjknahalpnaa
