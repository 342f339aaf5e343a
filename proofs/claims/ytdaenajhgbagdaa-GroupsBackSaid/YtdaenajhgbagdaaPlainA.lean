/-
  Bits and bytes in plain words: no program in sight. Bits are Booleans, bytes are UInt8. What was packed is read again, in plain words. Layer 6 in plain words: the bytes in use, places in a list whose last used one is moved to the front, rows of bits. Pieces of bits, in plain words. May bits be? In plain words. Pieces joined, in plain words. Pieces joined, in plain words. Tables of lengths in bits, in plain words. Lengths read: how many, how far. What was told is read, behind whatever bytes. Canonical prefix codes in plain words. Symbols that were told in bits, behind whatever bytes, are read again. Prefix codes read, in plain words: the program's way and the document's are one. Codes, symbols told in codes and read again: what the functions answer, in plain words. Full lengths read a symbol out of any bits, plainly.
-/
import Derived.Laws.AppendOwn
namespace Go.Proofs.Ytdaenajhgbagdaa
namespace K

/-- Bit number j of a row, 0 behind its end. -/
def bt (bs : List Bool) (j : Nat) : Nat := (bs.getD j false).toNat
theorem bt_le (bs : List Bool) (j : Nat) : bt bs j ≤ 1 := by unfold bt; exact Bool.toNat_le _
theorem bt_snoc (bs : List Bool) (c : Bool) (j : Nat) : bt (bs ++ [c]) j = if j = bs.length then c.toNat else bt bs j := by
  unfold bt
  rcases Nat.lt_trichotomy j bs.length with h | h | h
  · rw [if_neg (by omega)]; simp [List.getD, List.getElem?_append_left h]
  · subst h; simp [List.getD]
  · rw [if_neg (by omega)]
    have h1 : (bs ++ [c])[j]? = none := List.getElem?_eq_none (by simp; omega)
    have h2 : bs[j]? = none := List.getElem?_eq_none (by omega)
    simp [List.getD, h1, h2]

/-- Byte number i of a row of bits. -/
def byteN (bs : List Bool) (i : Nat) : Nat :=
  128 * bt bs (8 * i) + 64 * bt bs (8 * i + 1) + 32 * bt bs (8 * i + 2) + 16 * bt bs (8 * i + 3) + 8 * bt bs (8 * i + 4) + 4 * bt bs (8 * i + 5) + 2 * bt bs (8 * i + 6) + bt bs (8 * i + 7)
theorem byteN_lt (bs : List Bool) (i : Nat) : byteN bs i < 256 := by
  unfold byteN
  have := bt_le bs (8 * i); have := bt_le bs (8 * i + 1); have := bt_le bs (8 * i + 2); have := bt_le bs (8 * i + 3)
  have := bt_le bs (8 * i + 4); have := bt_le bs (8 * i + 5); have := bt_le bs (8 * i + 6); have := bt_le bs (8 * i + 7)
  omega

/-- Bits as bytes, the last one filled up with 0 bits. -/
def pack (bs : List Bool) : List UInt8 := (List.range ((bs.length + 7) / 8)).map fun i => UInt8.ofNat (byteN bs i)
theorem pack_length (bs : List Bool) : (pack bs).length = (bs.length + 7) / 8 := by simp [pack]
theorem pack_getElem (bs : List Bool) (i : Nat) (h : i < (bs.length + 7) / 8) : (pack bs)[i]? = some (UInt8.ofNat (byteN bs i)) := by
  simp [pack, List.getElem?_range h]
theorem pack_nil : pack [] = [] := rfl

theorem byteN_false (bs : List Bool) (i : Nat) : byteN (bs ++ [false]) i = byteN bs i := by
  have h : ∀ j, bt (bs ++ [false]) j = bt bs j := fun j => by
    rw [bt_snoc]; split
    · rename_i h; subst h; simp [bt, List.getD]
    · rfl
  simp only [byteN, h]
theorem byteN_past (bs : List Bool) (i : Nat) (h : bs.length ≤ 8 * i) : byteN bs i = 0 := by
  have h : ∀ j, 8 * i ≤ j → bt bs j = 0 := fun j hj => by
    have : bs[j]? = none := List.getElem?_eq_none (by omega)
    simp [bt, List.getD, this]
  simp only [byteN]
  rw [h _ (by omega), h _ (by omega), h _ (by omega), h _ (by omega), h _ (by omega), h _ (by omega), h _ (by omega), h _ (by omega)]

theorem pack_false (bs : List Bool) : pack (bs ++ [false]) = if bs.length % 8 = 0 then pack bs ++ [0] else pack bs := by
  have hl : (bs ++ [false]).length = bs.length + 1 := by simp
  split
  · rename_i h
    have e : (bs.length + 1 + 7) / 8 = (bs.length + 7) / 8 + 1 := by omega
    unfold pack
    rw [hl, e, List.range_succ, List.map_append]
    congr 1
    · exact List.map_congr_left fun i _ => by rw [byteN_false]
    · simp only [List.map_cons, List.map_nil, byteN_false]
      rw [byteN_past _ _ (by omega)]
      rfl
  · rename_i h
    have e : (bs.length + 1 + 7) / 8 = (bs.length + 7) / 8 := by omega
    unfold pack
    rw [hl, e]
    exact List.map_congr_left fun i _ => by rw [byteN_false]

theorem or_pow (x r : Nat) (hr : r < 8) (h : x % 2 ^ (8 - r) = 0) : x ||| (128 / 2 ^ r) = x + 2 ^ (7 - r) := by
  have e1 : 128 / 2 ^ r = 2 ^ (7 - r) := by
    match r, hr with
    | 0, _ => rfl | 1, _ => rfl | 2, _ => rfl | 3, _ => rfl | 4, _ => rfl | 5, _ => rfl | 6, _ => rfl | 7, _ => rfl
  rw [e1]
  have e2 : x = 2 ^ (8 - r) * (x / 2 ^ (8 - r)) := by
    have := Nat.div_add_mod x (2 ^ (8 - r)); omega
  rw [e2]
  exact (Nat.two_pow_add_eq_or_of_lt (Nat.pow_lt_pow_right (by decide) (by omega)) _).symm

theorem byteN_head (bs : List Bool) (i r : Nat) (hr : bs.length = 8 * i + r) (h8 : r < 8) : byteN bs i % 2 ^ (8 - r) = 0 := by
  have h : ∀ j, 8 * i + r ≤ j → bt bs j = 0 := fun j hj => by
    have : bs[j]? = none := List.getElem?_eq_none (by omega)
    simp [bt, List.getD, this]
  unfold byteN
  match r, h8 with
  | 0, _ => rw [h _ (by omega), h _ (by omega), h _ (by omega), h _ (by omega), h _ (by omega), h _ (by omega), h _ (by omega), h _ (by omega)]
  | 1, _ => rw [h (8 * i + 1) (by omega), h (8 * i + 2) (by omega), h (8 * i + 3) (by omega), h (8 * i + 4) (by omega), h (8 * i + 5) (by omega), h (8 * i + 6) (by omega), h (8 * i + 7) (by omega)]; omega
  | 2, _ => rw [h (8 * i + 2) (by omega), h (8 * i + 3) (by omega), h (8 * i + 4) (by omega), h (8 * i + 5) (by omega), h (8 * i + 6) (by omega), h (8 * i + 7) (by omega)]; omega
  | 3, _ => rw [h (8 * i + 3) (by omega), h (8 * i + 4) (by omega), h (8 * i + 5) (by omega), h (8 * i + 6) (by omega), h (8 * i + 7) (by omega)]; omega
  | 4, _ => rw [h (8 * i + 4) (by omega), h (8 * i + 5) (by omega), h (8 * i + 6) (by omega), h (8 * i + 7) (by omega)]; omega
  | 5, _ => rw [h (8 * i + 5) (by omega), h (8 * i + 6) (by omega), h (8 * i + 7) (by omega)]; omega
  | 6, _ => rw [h (8 * i + 6) (by omega), h (8 * i + 7) (by omega)]; omega
  | 7, _ => rw [h (8 * i + 7) (by omega)]; omega

theorem byteN_true (bs : List Bool) (i r : Nat) (hr : bs.length = 8 * i + r) (h8 : r < 8) : byteN (bs ++ [true]) i = byteN bs i + 2 ^ (7 - r) := by
  have h : ∀ j, bt (bs ++ [true]) j = if j = bs.length then 1 else bt bs j := fun j => by rw [bt_snoc]; rfl
  have h0 : bt bs bs.length = 0 := by simp [bt, List.getD]
  rw [hr] at h h0
  unfold byteN
  simp only [h]
  match r, h8 with
  | 0, _ => simp at h0 ⊢; omega
  | 1, _ => simp [h0]; omega
  | 2, _ => simp [h0]; omega
  | 3, _ => simp [h0]; omega
  | 4, _ => simp [h0]; omega
  | 5, _ => simp [h0]; omega
  | 6, _ => simp [h0]; omega
  | 7, _ => simp [h0]

theorem byteN_other (bs : List Bool) (c : Bool) (i : Nat) (hi : i ≠ bs.length / 8) : byteN (bs ++ [c]) i = byteN bs i := by
  have h : ∀ j, j ≠ bs.length → bt (bs ++ [c]) j = bt bs j := fun j hj => by rw [bt_snoc, if_neg hj]
  unfold byteN
  rw [h _ (by omega), h _ (by omega), h _ (by omega), h _ (by omega), h _ (by omega), h _ (by omega), h _ (by omega), h _ (by omega)]

/-- A 1 bit more: set in the byte that the 0 bit stood in. -/
theorem pack_true (bs : List Bool) :
    pack (bs ++ [true]) = (pack (bs ++ [false])).set (bs.length / 8) (UInt8.ofNat (byteN bs (bs.length / 8) ||| (128 / 2 ^ (bs.length % 8)))) := by
  have hl : ∀ c, (bs ++ [c]).length = bs.length + 1 := by simp
  rw [or_pow _ _ (Nat.mod_lt _ (by decide)) (byteN_head bs _ _ (by omega) (Nat.mod_lt _ (by decide)))]
  apply List.ext_getElem?
  intro i
  rw [List.getElem?_set]
  by_cases hi : i < (bs.length + 1 + 7) / 8
  · rw [pack_getElem _ _ (by rw [hl]; exact hi), pack_getElem _ _ (by rw [hl]; exact hi), pack_length, hl]
    by_cases he : bs.length / 8 = i
    · rw [if_pos he, if_pos (by omega)]
      subst he
      rw [byteN_true bs _ (bs.length % 8) (by omega) (Nat.mod_lt _ (by decide))]
    · rw [if_neg he, byteN_other _ _ _ (fun h => he h.symm), byteN_other _ _ _ (fun h => he h.symm)]
  · have h1 : (pack (bs ++ [true]))[i]? = none := List.getElem?_eq_none (by rw [pack_length, hl]; omega)
    have h2 : (pack (bs ++ [false]))[i]? = none := List.getElem?_eq_none (by rw [pack_length, hl]; omega)
    rw [h1, h2, if_neg (by omega)]

/-- The n lowest bits of v, the highest first. -/
def low (v n : Nat) : List Bool := (List.range n).map fun k => v.testBit (n - 1 - k)
theorem low_length (v n : Nat) : (low v n).length = n := by simp [low]
theorem low_take (v n k : Nat) (h : k < n) : (low v n).take (k + 1) = (low v n).take k ++ [v.testBit (n - 1 - k)] := by
  have h' : k < (low v n).length := by rw [low_length]; exact h
  rw [List.take_succ_eq_append_getElem h']
  simp [low]
theorem low_succ_get (v n k : Nat) (h : k < n) : (low v n)[k]? = some (v.testBit (n - 1 - k)) := by simp [low, List.getElem?_range h]

/-- A number of bits, the first one the highest. -/
def num (l : List Bool) : Nat := l.foldl (fun v b => 2 * v + b.toNat) 0
theorem num_snoc (l : List Bool) (b : Bool) : num (l ++ [b]) = 2 * num l + b.toNat := by simp [num, List.foldl_append]
theorem num_lt (l : List Bool) : num l < 2 ^ l.length := by
  suffices h : ∀ n (l : List Bool), l.length = n → num l < 2 ^ n from h _ l rfl
  intro n
  induction n with
  | zero => intro l hl; rw [List.eq_nil_of_length_eq_zero hl]; simp [num]
  | succ n ih =>
    intro l hl
    have hne : l ≠ [] := by intro h; simp [h] at hl
    have e := List.dropLast_concat_getLast hne
    rw [← e, num_snoc]
    have := ih l.dropLast (by simp [hl])
    have := Bool.toNat_le (l.getLast hne)
    rw [Nat.pow_succ]
    omega

/-- Bit number i of a text. -/
def tbit (s : List UInt8) (i : Nat) : Bool := (s.getD (i / 8) 0).toNat.testBit (7 - i % 8)
/-- All bits of a text. -/
def bitsOf (s : List UInt8) : List Bool := (List.range (8 * s.length)).map (tbit s)
theorem bitsOf_length (s : List UInt8) : (bitsOf s).length = 8 * s.length := by simp [bitsOf]
theorem bitsOf_get (s : List UInt8) (i : Nat) (h : i < 8 * s.length) : (bitsOf s)[i]? = some (tbit s i) := by simp [bitsOf, List.getElem?_range h]
theorem bitsOf_take (s : List UInt8) (k : Nat) (h : k < 8 * s.length) : (bitsOf s).take (k + 1) = (bitsOf s).take k ++ [tbit s k] := by
  have h1 : k < (bitsOf s).length := by rw [bitsOf_length]; exact h
  rw [List.take_succ_eq_append_getElem h1]
  congr 2
  have := bitsOf_get s k h
  rw [List.getElem?_eq_getElem h1] at this
  exact Option.some.inj this
/-- n bits from a place on. -/
def piece (l : List Bool) (at_ n : Nat) : List Bool := (l.drop at_).take n
theorem piece_length (l : List Bool) (at_ n : Nat) (h : at_ + n ≤ l.length) : (piece l at_ n).length = n := by simp [piece]; omega
theorem piece_zero (l : List Bool) (at_ : Nat) : piece l at_ 0 = [] := by simp [piece]
theorem piece_succ (s : List UInt8) (at_ k : Nat) (h : at_ + k < 8 * s.length) : piece (bitsOf s) at_ (k + 1) = piece (bitsOf s) at_ k ++ [tbit s (at_ + k)] := by
  have h1 : k < ((bitsOf s).drop at_).length := by rw [List.length_drop, bitsOf_length]; omega
  unfold piece
  rw [List.take_succ_eq_append_getElem h1]
  congr 2
  have := bitsOf_get s (at_ + k) h
  have h2 : at_ + k < (bitsOf s).length := by rw [bitsOf_length]; exact h
  rw [List.getElem?_eq_getElem h2] at this
  simpa using this
theorem testBit_div (v i : Nat) : ((v.testBit i).toNat : Nat) = v / 2 ^ i % 2 := by
  rw [Nat.testBit_eq_decide_div_mod_eq]
  have := Nat.mod_lt (v / 2 ^ i) (show 0 < 2 by decide)
  rcases (show v / 2 ^ i % 2 = 0 ∨ v / 2 ^ i % 2 = 1 by omega) with h | h <;> rw [h] <;> rfl
theorem shl_or (v : Nat) (b : Bool) : (v * 2) ||| b.toNat = 2 * v + b.toNat := by
  have := Nat.two_pow_add_eq_or_of_lt (i := 1) (b := b.toNat) (by have := Bool.toNat_le b; omega) v
  rw [show v * 2 = 2 ^ 1 * v by omega, ← this]

/-- The first k bits of byte number i, as a number. -/
def acc (bs : List Bool) (i : Nat) : Nat → Nat
  | 0 => 0
  | k + 1 => acc bs i k * 2 + bt bs (8 * i + k)
theorem acc_lt (bs : List Bool) (i k : Nat) : acc bs i k < 2 ^ k := by
  induction k with
  | zero => simp [acc]
  | succ k ih => have := bt_le bs (8 * i + k); rw [acc, Nat.pow_succ]; omega
theorem acc_eight (bs : List Bool) (i : Nat) : acc bs i 8 = byteN bs i := by
  simp only [acc, byteN, Nat.add_zero]; omega
theorem pack_take (bs : List Bool) (m : Nat) (h : 8 * m < bs.length) : (pack bs).take (m + 1) = (pack bs).take m ++ [UInt8.ofNat (byteN bs m)] := by
  have hm : m < (pack bs).length := by rw [pack_length]; omega
  rw [List.take_succ_eq_append_getElem hm]
  congr 2
  have := pack_getElem bs m (by omega)
  rw [List.getElem?_eq_getElem hm] at this
  exact Option.some.inj this

theorem num_take (bs : List Bool) (k : Nat) (h : k < bs.length) : num (bs.take (k + 1)) = 2 * num (bs.take k) + bt bs k := by
  rw [List.take_succ_eq_append_getElem h, num_snoc]
  simp [bt, List.getD, List.getElem?_eq_getElem h]

/-- How many 1 bits stand ahead of the next 0 bit, and the error: n are passed already. -/
def unary (most : Int) : Nat → List Bool → Nat × Nat
  | _, [] => (0, 10)
  | n, false :: _ => (n, 0)
  | n, true :: t => if (n : Int) = most then (0, 3) else unary most (n + 1) t
theorem unary_zero (most : Int) (n i : Nat) (s : List UInt8) (h : i < 8 * s.length) (hb : tbit s i = false) : unary most n ((bitsOf s).drop i) = (n, 0) := by
  have h2 : i < (bitsOf s).length := by rw [bitsOf_length]; exact h
  have := bitsOf_get s i h
  rw [List.getElem?_eq_getElem h2] at this
  rw [List.drop_eq_getElem_cons h2, Option.some.inj this, hb]
  rfl
theorem unary_one (most : Int) (n i : Nat) (s : List UInt8) (h : i < 8 * s.length) (hb : tbit s i = true) :
    unary most n ((bitsOf s).drop i) = if (n : Int) = most then (0, 3) else unary most (n + 1) ((bitsOf s).drop (i + 1)) := by
  have h2 : i < (bitsOf s).length := by rw [bitsOf_length]; exact h
  have := bitsOf_get s i h
  rw [List.getElem?_eq_getElem h2] at this
  rw [List.drop_eq_getElem_cons h2, Option.some.inj this, hb]
  rfl
theorem unary_end (most : Int) (n i : Nat) (s : List UInt8) (h : 8 * s.length ≤ i) : unary most n ((bitsOf s).drop i) = (0, 10) := by
  rw [List.drop_eq_nil_of_le (by rw [bitsOf_length]; exact h)]; rfl
end K
end Go.Proofs.Ytdaenajhgbagdaa
namespace Go.Proofs.Ytdaenajhgbagdaa
namespace K

theorem tbit_pack (bs : List Bool) (i : Nat) (h : i < 8 * (pack bs).length) : tbit (pack bs) i = bs.getD i false := by
  have hi : i / 8 < (bs.length + 7) / 8 := by rw [pack_length] at h; omega
  unfold tbit
  rw [List.getD, pack_getElem bs _ hi, Option.getD_some, UInt8.toNat_ofNat', Nat.mod_eq_of_lt (byteN_lt bs _)]
  have e : ((byteN bs (i / 8)).testBit (7 - i % 8)).toNat = (bs.getD i false).toNat := by
    rw [testBit_div]
    have hb : (bs.getD i false).toNat = bt bs (8 * (i / 8) + i % 8) := by unfold bt; rw [show 8 * (i / 8) + i % 8 = i by omega]
    rw [hb]
    unfold byteN
    have h0 := bt_le bs (8 * (i / 8)); have h1 := bt_le bs (8 * (i / 8) + 1); have h2 := bt_le bs (8 * (i / 8) + 2); have h3 := bt_le bs (8 * (i / 8) + 3)
    have h4 := bt_le bs (8 * (i / 8) + 4); have h5 := bt_le bs (8 * (i / 8) + 5); have h6 := bt_le bs (8 * (i / 8) + 6); have h7 := bt_le bs (8 * (i / 8) + 7)
    have hr : i % 8 < 8 := Nat.mod_lt _ (by decide)
    generalize i % 8 = r at hr
    match r, hr with
    | 0, _ => simp; omega
    | 1, _ => simp; omega
    | 2, _ => simp; omega
    | 3, _ => simp; omega
    | 4, _ => simp; omega
    | 5, _ => simp; omega
    | 6, _ => simp; omega
    | 7, _ => simp; omega
  revert e
  cases (byteN bs (i / 8)).testBit (7 - i % 8) <;> cases bs.getD i false <;> simp
theorem piece_pack (bs : List Bool) (i n : Nat) (h : i + n ≤ bs.length) : piece (bitsOf (pack bs)) i n = piece bs i n := by
  apply List.ext_getElem?
  intro j
  unfold piece
  rw [List.getElem?_take, List.getElem?_take]
  split
  · rename_i hj
    rw [List.getElem?_drop, List.getElem?_drop, bitsOf_get _ _ (by rw [pack_length]; omega), tbit_pack _ _ (by rw [pack_length]; omega)]
    rw [List.getD, List.getElem?_eq_getElem (show i + j < bs.length by omega)]
    rfl
  · rfl
theorem low_succ (v n : Nat) : low v (n + 1) = low (v / 2) n ++ [v.testBit 0] := by
  unfold low
  rw [List.range_succ, List.map_append]
  congr 1
  · refine List.map_congr_left fun k hk => ?_
    have hk' := List.mem_range.1 hk
    rw [show n + 1 - 1 - k = (n - 1 - k) + 1 by omega, Nat.testBit_succ]
  · simp
theorem num_low (v n : Nat) : num (low v n) = v % 2 ^ n := by
  induction n generalizing v with
  | zero => simp [low, num]; omega
  | succ n ih =>
    rw [low_succ, num_snoc, ih, testBit_div, Nat.pow_succ, Nat.mul_comm (2 ^ n) 2, Nat.mod_mul]
    simp
    omega
theorem piece_append (a b c : List Bool) : piece (a ++ b ++ c) a.length b.length = b := by
  unfold piece
  rw [List.append_assoc, List.drop_left, List.take_left]
end K
end Go.Proofs.Ytdaenajhgbagdaa
namespace Go.Proofs.Ytdaenajhgbagdaa
namespace K
set_option linter.unusedVariables false
set_option linter.unusedSectionVars false
set_option linter.unusedSimpArgs false

/-! ### The bytes in use -/
/-- Those of a text's bytes that are below n, rising. -/
def usesTo (s : List UInt8) (n : Nat) : List UInt8 := ((List.range n).map UInt8.ofNat).filter fun b => decide (b ∈ s)
def uses (s : List UInt8) : List UInt8 := usesTo s 256
theorem usesTo_zero (s : List UInt8) : usesTo s 0 = [] := rfl
theorem usesTo_yes (s : List UInt8) (n : Nat) (h : UInt8.ofNat n ∈ s) : usesTo s (n + 1) = usesTo s n ++ [UInt8.ofNat n] := by
  unfold usesTo; rw [List.range_succ, List.map_append, List.filter_append]; simp [h]
theorem usesTo_no (s : List UInt8) (n : Nat) (h : UInt8.ofNat n ∉ s) : usesTo s (n + 1) = usesTo s n := by
  unfold usesTo; rw [List.range_succ, List.map_append, List.filter_append]; simp [h]
theorem usesTo_length (s : List UInt8) (n : Nat) : (usesTo s n).length ≤ n := by
  unfold usesTo
  exact Nat.le_trans (List.length_filter_le _ _) (by simp)
theorem allB_rises : ((List.range 256).map UInt8.ofNat).Pairwise (· < ·) := by decide +kernel
theorem uses_rises (s : List UInt8) : (uses s).Pairwise (· < ·) := allB_rises.sublist List.filter_sublist
theorem mem_uses (s : List UInt8) (b : UInt8) : b ∈ uses s ↔ b ∈ s := by
  unfold uses usesTo
  simp only [List.mem_filter, List.mem_map, List.mem_range, decide_eq_true_eq]
  constructor
  · exact fun h => h.2
  · exact fun h => ⟨⟨b.toNat, UInt8.toNat_lt b, by simp⟩, h⟩
theorem rises_nodup {l : List UInt8} (h : l.Pairwise (· < ·)) : l.Nodup := h.imp fun {a b} hab he => by rw [he] at hab; exact absurd hab (UInt8.lt_irrefl b)
theorem uses_same (l : List UInt8) : uses l = l ↔ l.Pairwise (· < ·) := by
  constructor
  · intro h; rw [← h]; exact uses_rises l
  · intro h
    refine List.Perm.eq_of_pairwise (le := (· < ·)) (fun a b _ _ h1 h2 => absurd (UInt8.lt_trans h1 h2) (UInt8.lt_irrefl a)) (uses_rises l) h ?_
    exact (List.perm_ext_iff_of_nodup (rises_nodup (uses_rises l)) (rises_nodup h)).2 (mem_uses l)
theorem uses_uses (s : List UInt8) : uses (uses s) = uses s := (uses_same _).2 (uses_rises s)
/-- May symbols be? -/
def mayS (l : List UInt8) : Bool := decide (l ≠ []) && decide (uses l = l)
theorem mayS_uses (s : List UInt8) (h : s ≠ []) : mayS (uses s) = true := by
  unfold mayS
  have : uses s ≠ [] := by
    obtain ⟨b, hb⟩ := List.exists_mem_of_ne_nil _ h
    exact fun he => by have := (mem_uses s b).2 hb; rw [he] at this; cases this
  simp [this, uses_uses]
theorem mayS_nil : mayS [] = false := rfl
theorem mayS_rises (l : List UInt8) (h0 : l ≠ []) (h : ∀ i, i + 1 < l.length → l.getD i 0 < l.getD (i + 1) 0) : mayS l = true := by
  have key : ∀ d i, i + d + 1 < l.length → l.getD i 0 < l.getD (i + d + 1) 0 := by
    intro d
    induction d with
    | zero => exact fun i hi => h i hi
    | succ d ih => exact fun i hi => UInt8.lt_trans (ih i (by omega)) (h (i + d + 1) hi)
  have hp : l.Pairwise (· < ·) := by
    rw [List.pairwise_iff_getElem]
    intro i j hi hj hij
    have := key (j - i - 1) i (by omega)
    rw [show i + (j - i - 1) + 1 = j by omega, List.getD, List.getD, List.getElem?_eq_getElem hi, List.getElem?_eq_getElem hj] at this
    exact this
  unfold mayS
  simp [h0, (uses_same l).2 hp]
theorem mayS_falls (l : List UInt8) (i : Nat) (hi : i + 1 < l.length) (h : ¬ l.getD i 0 < l.getD (i + 1) 0) : mayS l = false := by
  have : uses l ≠ l := by
    intro he
    have hp := (uses_same l).1 he
    rw [List.pairwise_iff_getElem] at hp
    have := hp i (i + 1) (by omega) hi (by omega)
    rw [List.getD, List.getD, List.getElem?_eq_getElem hi, List.getElem?_eq_getElem (show i < l.length by omega)] at h
    exact h this
  unfold mayS
  simp [this]

/-! ### To the front -/
section
variable {α : Type} [Inhabited α]
/-- What stands at a place, moved to the front. -/
def turned (l : List α) (p : Nat) : List α := l.getD p default :: l.eraseIdx p
theorem turned_length (l : List α) (p : Nat) (h : p < l.length) : (turned l p).length = l.length := by
  unfold turned; rw [List.length_cons, List.length_eraseIdx_of_lt h]; omega
theorem turned_mem (l : List α) (p : Nat) (h : p < l.length) (b : α) : b ∈ turned l p ↔ b ∈ l := by
  have e : l = l.take p ++ l[p] :: l.drop (p + 1) := by rw [← List.drop_eq_getElem_cons h, List.take_append_drop]
  have hp : (turned l p).Perm l := by
    unfold turned
    rw [List.eraseIdx_eq_take_drop_succ, List.getD, List.getElem?_eq_getElem h]
    conv => rhs; rw [e]
    exact List.perm_middle.symm
  exact hp.mem_iff
theorem turned_eq (l : List α) (p : Nat) : turned l p = l.getD p default :: (l.take p ++ l.drop (p + 1)) := by
  unfold turned; rw [List.eraseIdx_eq_take_drop_succ]
variable [BEq α] [LawfulBEq α]
/-- The places of bytes in a list whose last used one is moved to the front. -/
def front (l : List α) : List α → Option (List Nat)
  | [] => some []
  | b :: s => if l.idxOf b = l.length then none else (front (turned l (l.idxOf b)) s).map (l.idxOf b :: ·)
/-- What stands at such places. -/
def back (l : List α) : List Int → Option (List α)
  | [] => some []
  | p :: ps => if p < 0 ∨ (l.length : Int) ≤ p then none else (back (turned l p.toNat) ps).map (l.getD p.toNat default :: ·)
theorem idxOf_getD (l : List α) (b : α) (h : l.idxOf b < l.length) : l.getD (l.idxOf b) default = b := by
  rw [List.getD, List.getElem?_eq_getElem h]; exact List.getElem_idxOf h
theorem back_front (s : List α) : ∀ (l : List α) (ps : List Nat), front l s = some ps → back l (ps.map fun p : Nat => (p : Int)) = some s := by
  induction s with
  | nil => intro l ps h; simp [front] at h; subst h; rfl
  | cons b s ih =>
    intro l ps h
    have hle : l.idxOf b ≤ l.length := List.idxOf_le_length
    rw [front] at h
    split at h
    · cases h
    · rename_i hne
      have hlt : l.idxOf b < l.length := by omega
      cases hf : front (turned l (l.idxOf b)) s with
      | none => rw [hf] at h; cases h
      | some qs =>
        rw [hf] at h
        obtain rfl : l.idxOf b :: qs = ps := by simpa using h
        have := ih _ _ hf
        rw [List.map_cons, back, if_neg (by omega), Int.toNat_natCast, this, idxOf_getD l b hlt]
        rfl
theorem front_some (s : List α) : ∀ (l : List α), (∀ b ∈ s, b ∈ l) → ∃ ps, front l s = some ps := by
  induction s with
  | nil => exact fun l _ => ⟨[], rfl⟩
  | cons b s ih =>
    intro l h
    have hlt := List.idxOf_lt_length_of_mem (h b (by simp))
    obtain ⟨ps, hps⟩ := ih (turned l (l.idxOf b)) (fun c hc => (turned_mem l _ hlt c).2 (h c (by simp [hc])))
    exact ⟨l.idxOf b :: ps, by rw [front, if_neg (by omega), hps]; rfl⟩
theorem front_length (s : List α) : ∀ (l : List α) (ps : List Nat), front l s = some ps → ps.length = s.length := by
  induction s with
  | nil => intro l ps h; simp [front] at h; subst h; rfl
  | cons b s ih =>
    intro l ps h
    rw [front] at h
    split at h
    · cases h
    · cases hf : front (turned l (l.idxOf b)) s with
      | none => rw [hf] at h; cases h
      | some qs =>
        rw [hf] at h
        obtain rfl : l.idxOf b :: qs = ps := by simpa using h
        simp [ih _ _ hf]
/-- A place is 0 just where a byte is the one ahead of it. -/
theorem front_zero (s : List α) : ∀ (l : List α) (ps : List Nat), front l s = some ps → ∀ i, i + 1 < s.length → (ps.getD (i + 1) 0 = 0 ↔ s.getD (i + 1) default = s.getD i default) := by
  induction s with
  | nil => intro l ps h i hi; simp at hi
  | cons b s ih =>
    intro l ps h i hi
    have hle : l.idxOf b ≤ l.length := List.idxOf_le_length
    rw [front] at h
    split at h
    · cases h
    · rename_i hne
      have hlt : l.idxOf b < l.length := by omega
      cases hf : front (turned l (l.idxOf b)) s with
      | none => rw [hf] at h; cases h
      | some qs =>
        rw [hf] at h
        obtain rfl : l.idxOf b :: qs = ps := by simpa using h
        cases i with
        | succ i =>
          have := ih _ _ hf i (by simpa using hi)
          simpa using this
        | zero =>
          cases s with
          | nil => simp at hi
          | cons c s =>
            rw [front] at hf
            split at hf
            · cases hf
            · cases hg : front (turned (turned l (l.idxOf b)) ((turned l (l.idxOf b)).idxOf c)) s with
              | none => rw [hg] at hf; cases hf
              | some rs =>
                rw [hg] at hf
                obtain rfl := (by simpa using hf : (turned l (l.idxOf b)).idxOf c :: rs = qs)
                have hb := idxOf_getD l b hlt
                simp only [List.getD_cons_succ, List.getD_cons_zero]
                unfold turned
                rw [hb, List.idxOf_cons]
                by_cases hbc : b = c
                · subst hbc; simp
                · have : (b == c) = false := by simpa using hbc
                  rw [this]
                  simp only [Bool.false_eq_true, cond_false, if_false]
                  constructor
                  · intro h; omega
                  · intro h; exact absurd h.symm hbc
theorem front_cons (l : List α) (b : α) (s : List α) (h : l.idxOf b < l.length) : front l (b :: s) = (front (turned l (l.idxOf b)) s).map (l.idxOf b :: ·) := by
  rw [front, if_neg (by omega)]
theorem front_none (l : List α) (b : α) (s : List α) (h : l.idxOf b = l.length) : front l (b :: s) = none := by
  rw [front, if_pos h]
theorem map_map_cons {β : Type} (o : Option (List β)) (A : List β) (x : β) : (o.map (x :: ·)).map (A ++ ·) = o.map (A ++ [x] ++ ·) := by
  cases o <;> simp
end
/-- Front's answer. -/
def frontR (s all : List UInt8) : List Nat × Nat := if mayS all then match front all s with | none => ([], 60) | some l => (l, 0) else ([], 2)
/-- Back's. -/
def backR (l : List Int) (all : List UInt8) : List UInt8 × Nat := if mayS all then match back all l with | none => ([], 60) | some s => (s, 0) else ([], 2)

/-! ### In bits -/
theorem num_testBit (bs : List Bool) : ∀ j, j < bs.length → (num bs).testBit j = bs.getD (bs.length - 1 - j) false := by
  suffices h : ∀ n (bs : List Bool), bs.length = n → ∀ j, j < n → (num bs).testBit j = bs.getD (n - 1 - j) false by
    intro j hj; exact h _ bs rfl j hj
  intro n
  induction n with
  | zero => intro bs _ j hj; omega
  | succ n ih =>
    intro bs hl j hj
    have hne : bs ≠ [] := by intro h; simp [h] at hl
    have e := List.dropLast_concat_getLast hne
    have hd : bs.dropLast.length = n := by simp [hl]
    rw [← e, num_snoc]
    cases j with
    | zero =>
      rw [show n + 1 - 1 - 0 = bs.dropLast.length by omega]
      cases bs.getLast hne <;> simp [List.getD]
    | succ j =>
      rw [Nat.testBit_succ, show (2 * num bs.dropLast + (bs.getLast hne).toNat) / 2 = num bs.dropLast by have := Bool.toNat_le (bs.getLast hne); omega, ih _ hd j (by omega)]
      rw [List.getD, List.getD, List.getElem?_append_left (by omega), show n + 1 - 1 - (j + 1) = n - 1 - j by omega]
theorem low_num (bs : List Bool) : low (num bs) bs.length = bs := by
  apply List.ext_getElem?
  intro k
  by_cases hk : k < bs.length
  · rw [low_succ_get _ _ _ hk, num_testBit bs _ (by omega), show bs.length - 1 - (bs.length - 1 - k) = k by omega, List.getD, List.getElem?_eq_getElem hk]
    rfl
  · rw [List.getElem?_eq_none (by rw [low_length]; omega), List.getElem?_eq_none (by omega)]
/-- A number whose bits, the highest of n first, a function tells. -/
def mask (f : Nat → Bool) (n : Nat) : Nat := num ((List.range n).map f)
theorem mask_lt (f : Nat → Bool) (n : Nat) : mask f n < 2 ^ n := by have := num_lt ((List.range n).map f); simpa [mask] using this
theorem mask_low (f : Nat → Bool) (n : Nat) : low (mask f n) n = (List.range n).map f := by
  have := low_num ((List.range n).map f)
  simpa [mask] using this
theorem mask_bit (f : Nat → Bool) (n k : Nat) (h : k < n) : (mask f n).testBit (n - 1 - k) = f k := by
  unfold mask
  rw [num_testBit _ _ (by simp; omega)]
  simp [List.getD, show n - 1 - (n - 1 - k) = k by omega, List.getElem?_range h]
theorem mask_ext (x : Nat) (f : Nat → Bool) (n : Nat) (hx : x < 2 ^ n) (h : ∀ k, k < n → x.testBit (n - 1 - k) = f k) : x = mask f n := by
  apply Nat.eq_of_testBit_eq
  intro j
  by_cases hj : j < n
  · have h1 := h (n - 1 - j) (by omega)
    have h2 := mask_bit f n (n - 1 - j) (by omega)
    rw [show n - 1 - (n - 1 - j) = j by omega] at h1 h2
    rw [h1, h2]
  · have hp : 2 ^ n ≤ 2 ^ j := Nat.pow_le_pow_right (by decide) (by omega)
    rw [Nat.testBit_lt_two_pow (by omega), Nat.testBit_lt_two_pow (by have := mask_lt f n; omega)]
theorem mask_set (f g : Nat → Bool) (n p : Nat) (hp : p < n) (hg : ∀ k, k < n → g k = (f k || decide (k = p))) : mask f n ||| 2 ^ (n - 1 - p) = mask g n := by
  refine mask_ext _ _ _ (Nat.or_lt_two_pow (mask_lt f n) (Nat.pow_lt_pow_right (by decide) (by omega))) fun k hk => ?_
  rw [Nat.testBit_or, mask_bit f n k hk, hg k hk, Nat.testBit_two_pow]
  congr 1
  rw [Bool.eq_iff_iff]; simp; omega
theorem mask_congr (f g : Nat → Bool) (n : Nat) (h : ∀ k, k < n → f k = g k) : mask f n = mask g n := by
  unfold mask; congr 1; exact List.map_congr_left fun k hk => h k (List.mem_range.1 hk)
theorem mask_none (n : Nat) : mask (fun _ => false) n = 0 := by
  have : (0 : Nat) = mask (fun _ => false) n := mask_ext 0 _ n (Nat.two_pow_pos n) (fun k hk => by simp)
  exact this.symm
theorem mask_zero (f : Nat → Bool) (n : Nat) : mask f n = 0 ↔ ∀ k, k < n → f k = false := by
  constructor
  · intro h k hk
    have := mask_bit f n k hk
    rw [h] at this
    simpa using this.symm
  · intro h
    rw [mask_congr f (fun _ => false) n h, mask_none]

/-- Is byte number 16 i + k among them? -/
def has (l : List UInt8) (i k : Nat) : Bool := decide (UInt8.ofNat (16 * i + k) ∈ l)
def rowBits (l : List UInt8) (i : Nat) : List Bool := (List.range 16).map (has l i)
def rowUsed (l : List UInt8) (i : Nat) : Bool := (List.range 16).any (has l i)
def rowNum (l : List UInt8) (i : Nat) : Nat := mask (has l i) 16
theorem rowBits_length (l : List UInt8) (i : Nat) : (rowBits l i).length = 16 := by simp [rowBits]
theorem rowNum_zero (l : List UInt8) (i : Nat) : rowNum l i = 0 ↔ rowUsed l i = false := by
  unfold rowNum rowUsed
  rw [mask_zero, List.any_eq_false]
  simp
theorem rowNum_low (l : List UInt8) (i : Nat) : low (rowNum l i) 16 = rowBits l i := mask_low _ _
theorem has_snoc (l : List UInt8) (b : UInt8) (i k : Nat) (hi : i < 16) (hk : k < 16) : has (l ++ [b]) i k = (has l i k || decide (i = b.toNat / 16 ∧ k = b.toNat % 16)) := by
  unfold has
  rw [Bool.eq_iff_iff]
  simp only [List.mem_append, List.mem_singleton, decide_eq_true_eq, Bool.or_eq_true]
  refine or_congr Iff.rfl ?_
  constructor
  · intro h
    have := congrArg UInt8.toNat h
    rw [UInt8.toNat_ofNat'] at this
    omega
  · rintro ⟨rfl, rfl⟩
    rw [Nat.div_add_mod]
    simp
theorem rowNum_snoc (l : List UInt8) (b : UInt8) : rowNum (l ++ [b]) (b.toNat / 16) = rowNum l (b.toNat / 16) ||| 2 ^ (15 - b.toNat % 16) := by
  have hb := UInt8.toNat_lt b
  refine (mask_set (has l (b.toNat / 16)) _ 16 (b.toNat % 16) (by omega) fun k hk => ?_).symm
  rw [has_snoc l b _ k (by omega) hk]
  simp
theorem rowNum_other (l : List UInt8) (b : UInt8) (i : Nat) (hi : i < 16) (h : i ≠ b.toNat / 16) : rowNum (l ++ [b]) i = rowNum l i := by
  refine mask_congr _ _ _ fun k hk => ?_
  rw [has_snoc l b i k hi hk]
  simp [h]
/-- The first n of the sixteen bits that say which rows there are, as a number. -/
def headNum (l : List UInt8) (n : Nat) : Nat := mask (fun i => decide (i < n) && rowUsed l i) 16
theorem headNum_zero (l : List UInt8) : headNum l 0 = 0 := by unfold headNum; simp [mask_none]
theorem headNum_yes (l : List UInt8) (n : Nat) (hn : n < 16) (h : rowUsed l n = true) : headNum l (n + 1) = headNum l n ||| 2 ^ (15 - n) := by
  refine (mask_set _ _ 16 n hn fun k hk => ?_).symm
  rw [Bool.eq_iff_iff]
  simp only [Bool.and_eq_true, Bool.or_eq_true, decide_eq_true_eq]
  constructor
  · rintro ⟨h1, h2⟩
    by_cases hk : k = n
    · exact .inr hk
    · exact .inl ⟨by omega, h2⟩
  · rintro (⟨h1, h2⟩ | rfl)
    · exact ⟨by omega, h2⟩
    · exact ⟨by omega, h⟩
theorem headNum_no (l : List UInt8) (n : Nat) (h : rowUsed l n = false) : headNum l (n + 1) = headNum l n := by
  refine mask_congr _ _ _ fun k hk => ?_
  rw [Bool.eq_iff_iff]
  simp only [Bool.and_eq_true, decide_eq_true_eq]
  constructor
  · rintro ⟨h1, h2⟩
    refine ⟨?_, h2⟩
    rcases Nat.lt_or_ge k n with h' | h'
    · exact h'
    · obtain rfl : k = n := by omega
      rw [h] at h2; cases h2
  · rintro ⟨h1, h2⟩
    exact ⟨by omega, h2⟩
def headBits (l : List UInt8) : List Bool := (List.range 16).map (rowUsed l)
theorem headBits_length (l : List UInt8) : (headBits l).length = 16 := by simp [headBits]
theorem headNum_low (l : List UInt8) : low (headNum l 16) 16 = headBits l := by
  unfold headNum headBits
  rw [mask_low]
  exact List.map_congr_left fun i hi => by simp [List.mem_range.1 hi]
theorem headNum_lt (l : List UInt8) (n : Nat) : headNum l n < 65536 := mask_lt _ 16
theorem rowNum_lt (l : List UInt8) (n : Nat) : rowNum l n < 65536 := mask_lt _ 16
/-- The rows that there are, of the first n. -/
def rowsBits (l : List UInt8) (n : Nat) : List Bool := (List.range n).flatMap fun i => if rowUsed l i then rowBits l i else []
theorem rowsBits_zero (l : List UInt8) : rowsBits l 0 = [] := rfl
theorem rowsBits_yes (l : List UInt8) (n : Nat) (h : rowUsed l n = true) : rowsBits l (n + 1) = rowsBits l n ++ rowBits l n := by
  unfold rowsBits; rw [List.range_succ, List.flatMap_append]; simp [h]
theorem rowsBits_no (l : List UInt8) (n : Nat) (h : rowUsed l n = false) : rowsBits l (n + 1) = rowsBits l n := by
  unfold rowsBits; rw [List.range_succ, List.flatMap_append]; simp [h]
theorem rowsBits_length (l : List UInt8) (n : Nat) : (rowsBits l n).length ≤ 16 * n := by
  induction n with
  | zero => simp [rowsBits]
  | succ n ih =>
    rcases Bool.eq_false_or_eq_true (rowUsed l n) with h | h
    · rw [rowsBits_yes l n h, List.length_append, rowBits_length]; omega
    · rw [rowsBits_no l n h]; omega
def symBits (l : List UInt8) : List Bool := headBits l ++ rowsBits l 16
theorem symBits_length (l : List UInt8) : (symBits l).length ≤ 272 := by
  unfold symBits; rw [List.length_append, headBits_length]; have := rowsBits_length l 16; omega
/-- Show's answer. -/
def symR (l : List UInt8) : List UInt8 × Int × Nat := if mayS l then (pack (symBits l), (((symBits l).length : Nat) : Int), 0) else ([], 0, 2)

/-! ### Out of bits -/
/-- The bytes of row i that sixteen bits say; of the first n of them. -/
def saidTo (i : Nat) (r : List Bool) (n : Nat) : List UInt8 := ((List.range n).filter fun k => r.getD k false).map fun k => UInt8.ofNat (16 * i + k)
theorem saidTo_yes (i : Nat) (r : List Bool) (n : Nat) (h : r.getD n false = true) : saidTo i r (n + 1) = saidTo i r n ++ [UInt8.ofNat (16 * i + n)] := by
  unfold saidTo; rw [List.range_succ, List.filter_append, List.map_append]
  congr 1
  rw [List.filter_cons, if_pos h]; rfl
theorem saidTo_no (i : Nat) (r : List Bool) (n : Nat) (h : r.getD n false = false) : saidTo i r (n + 1) = saidTo i r n := by
  unfold saidTo; rw [List.range_succ, List.filter_append, List.map_append]
  rw [List.filter_cons, if_neg (by rw [h]; decide)]; simp
theorem saidTo_length (i : Nat) (r : List Bool) (n : Nat) : (saidTo i r n).length ≤ n := by
  unfold saidTo; rw [List.length_map]; exact Nat.le_trans (List.length_filter_le _ _) (by simp)
/-- Rows from number i on (k are left), out of bits from p on. -/
def takeRows (bs : List Bool) (a : Nat → Bool) : Nat → Nat → Nat → List UInt8 → Option (List UInt8 × Nat)
  | 0, _, p, out => some (out, p)
  | k + 1, i, p, out => if a i then (if bs.length < p + 16 then none else takeRows bs a k (i + 1) (p + 16) (out ++ saidTo i (piece bs p 16) 16)) else takeRows bs a k (i + 1) p out
def saidR : Option (List UInt8 × Nat) → List UInt8 × Int × Nat
  | none => ([], 0, 10)
  | some (out, p) => if out = [] then ([], 0, 60) else (out, (p : Int), 0)
/-- Take's answer. -/
def takeSR (bs : List Bool) (at_ : Int) : List UInt8 × Int × Nat :=
  if at_ < 0 ∨ (bs.length : Int) < at_ then ([], 0, 2) else if bs.length < at_.toNat + 16 then ([], 0, 10) else
    saidR (takeRows bs (fun i => bs.getD (at_.toNat + i) false) 16 0 (at_.toNat + 16) [])
theorem saidTo_rows (l : List UInt8) (i n : Nat) (hi : i < 16) (hn : n ≤ 16) : usesTo l (16 * i + n) = usesTo l (16 * i) ++ saidTo i (rowBits l i) n := by
  induction n with
  | zero => simp [saidTo]
  | succ n ih =>
    have ih := ih (by omega)
    have hg : (rowBits l i).getD n false = has l i n := by
      simp [rowBits, List.getD, List.getElem?_range (show n < 16 by omega)]
    rcases Bool.eq_false_or_eq_true (has l i n) with h | h
    · rw [saidTo_yes _ _ _ (hg.trans h), ← List.append_assoc, ← ih]; exact usesTo_yes l (16 * i + n) (of_decide_eq_true h)
    · rw [saidTo_no _ _ _ (hg.trans h), ← ih]; exact usesTo_no l (16 * i + n) (of_decide_eq_false h)
theorem usesTo_none (l : List UInt8) (i : Nat) (hi : i < 16) (h : rowUsed l i = false) : usesTo l (16 * (i + 1)) = usesTo l (16 * i) := by
  have hr := saidTo_rows l i 16 hi (by omega)
  rw [show 16 * (i + 1) = 16 * i + 16 by omega, hr]
  have : saidTo i (rowBits l i) 16 = [] := by
    unfold saidTo
    rw [List.map_eq_nil_iff, List.filter_eq_nil_iff]
    intro k hk
    have hk' := List.mem_range.1 hk
    unfold rowUsed at h
    rw [List.any_eq_false] at h
    have := h k hk
    simpa [rowBits, List.getD, List.getElem?_range hk'] using this
  rw [this, List.append_nil]
/-- The rows that were told are read again. -/
theorem takeRows_told (bs : List Bool) (l : List UInt8) (p : Nat) (hp : ∀ j n, j + n ≤ (rowsBits l 16).length → piece bs (p + j) n = piece (rowsBits l 16) j n) (hl : p + (rowsBits l 16).length ≤ bs.length) :
    ∀ k i, i + k = 16 → takeRows bs (rowUsed l) k i (p + (rowsBits l i).length) (usesTo l (16 * i)) = some (uses l, p + (rowsBits l 16).length) := by
  intro k
  induction k with
  | zero =>
    intro i hi
    have hi : i = 16 := by omega
    subst hi
    rfl
  | succ k ih =>
    intro i hi
    have ih := ih (i + 1) (by omega)
    have hmono : ∀ d, ∃ t, rowsBits l (i + d) = rowsBits l i ++ t := by
      intro d
      induction d with
      | zero => exact ⟨[], by simp⟩
      | succ d ih =>
        obtain ⟨t, ht⟩ := ih
        rcases Bool.eq_false_or_eq_true (rowUsed l (i + d)) with h | h
        · exact ⟨t ++ rowBits l (i + d), by rw [show i + (d + 1) = i + d + 1 by omega, rowsBits_yes _ _ h, ht, List.append_assoc]⟩
        · exact ⟨t, by rw [show i + (d + 1) = i + d + 1 by omega, rowsBits_no _ _ h, ht]⟩
    rw [takeRows]
    rcases Bool.eq_false_or_eq_true (rowUsed l i) with h | h
    · have hy := rowsBits_yes l i h
      obtain ⟨t, ht⟩ : ∃ t, rowsBits l 16 = rowsBits l (i + 1) ++ t := by
        have : ∀ d, ∃ t, rowsBits l (i + 1 + d) = rowsBits l (i + 1) ++ t := by
          intro d
          induction d with
          | zero => exact ⟨[], by simp⟩
          | succ d ih =>
            obtain ⟨t, ht⟩ := ih
            rcases Bool.eq_false_or_eq_true (rowUsed l (i + 1 + d)) with h | h
            · exact ⟨t ++ rowBits l (i + 1 + d), by rw [show i + 1 + (d + 1) = i + 1 + d + 1 by omega, rowsBits_yes _ _ h, ht, List.append_assoc]⟩
            · exact ⟨t, by rw [show i + 1 + (d + 1) = i + 1 + d + 1 by omega, rowsBits_no _ _ h, ht]⟩
        have := this (16 - (i + 1))
        rwa [show i + 1 + (16 - (i + 1)) = 16 by omega] at this
      have hle : (rowsBits l i).length + 16 ≤ (rowsBits l 16).length := by
        rw [ht, hy, List.length_append, List.length_append, rowBits_length]; omega
      rw [if_pos h, if_neg (by omega), hp _ _ hle]
      have e : piece (rowsBits l 16) (rowsBits l i).length 16 = rowBits l i := by
        rw [ht, hy]
        have := piece_append (rowsBits l i) (rowBits l i) t
        rwa [rowBits_length] at this
      rw [e, ← saidTo_rows l i 16 (by omega) (by omega), show 16 * i + 16 = 16 * (i + 1) by omega]
      rw [hy, List.length_append, rowBits_length, ← Nat.add_assoc] at ih
      exact ih
    · have hn := rowsBits_no l i h
      rw [hn, usesTo_none l i (by omega) h] at ih
      rw [if_neg (by rw [h]; decide)]
      exact ih
end K
end Go.Proofs.Ytdaenajhgbagdaa
namespace Go.Proofs.Ytdaenajhgbagdaa
namespace K

theorem piece_one (s : List UInt8) (p : Nat) (h : p < 8 * s.length) : piece (bitsOf s) p 1 = [tbit s p] := by
  have := piece_succ s p 0 (by omega)
  rw [piece_zero] at this
  simpa using this
theorem num_one (b : Bool) : num [b] = b.toNat := by simp [num]
theorem low_one (b : Bool) : low b.toNat 1 = [b] := by cases b <;> rfl
/-- What Slice answers: the text, how many bits, the error. -/
def sliceR (s : List UInt8) (i n : Int) : List UInt8 × Int × Nat :=
  if i < 0 ∨ n < 0 ∨ (8 * s.length : Nat) < i ∨ (8 * s.length : Nat) - i < n then ([], 0, 2) else (pack (piece (bitsOf s) i.toNat n.toNat), n, 0)
end K
end Go.Proofs.Ytdaenajhgbagdaa
namespace Go.Proofs.Ytdaenajhgbagdaa
namespace K
set_option linter.unusedVariables false

/-- The n-th bit on are 0, and fewer than eight are left. -/
def mayR (s : List UInt8) (n : Int) : Bool := decide (0 ≤ n ∧ n ≤ (8 * s.length : Nat) ∧ ((8 * s.length : Nat) : Int) - n < 8) && ((bitsOf s).drop n.toNat).all (! ·)
theorem shl_zero : ∀ r : Fin 8, ∀ x : Fin 256, (x.val * 2 ^ r.val % 256 == 0) = ((List.range (8 - r.val)).all fun k => ! x.val.testBit (7 - (r.val + k))) := by decide +kernel
theorem mayR_len (s : List UInt8) (n : Nat) (h : ¬ s.length = n / 8 + (n % 8 + 7) / 8) : mayR s n = false := by
  have : ¬ (0 ≤ (n : Int) ∧ (n : Int) ≤ (8 * s.length : Nat) ∧ ((8 * s.length : Nat) : Int) - n < 8) := by omega
  unfold mayR
  rw [decide_eq_false this]
  rfl
theorem mayR_full (s : List UInt8) (n : Nat) (h : s.length = n / 8 + (n % 8 + 7) / 8) (h8 : n % 8 = 0) : mayR s n = true := by
  have h1 : 0 ≤ (n : Int) ∧ (n : Int) ≤ (8 * s.length : Nat) ∧ ((8 * s.length : Nat) : Int) - n < 8 := by omega
  unfold mayR
  rw [decide_eq_true h1, Int.toNat_natCast, List.drop_of_length_le (by rw [bitsOf_length]; omega)]
  rfl
theorem mayR_part (s : List UInt8) (n : Nat) (h : s.length = n / 8 + (n % 8 + 7) / 8) (h8 : ¬ n % 8 = 0) : mayR s n = ((s.getD (s.length - 1) 0).toNat * 2 ^ (n % 8) % 256 == 0) := by
  have h1 : 0 ≤ (n : Int) ∧ (n : Int) ≤ (8 * s.length : Nat) ∧ ((8 * s.length : Nat) : Int) - n < 8 := by omega
  have hl : s.length - 1 = n / 8 := by omega
  have hr := shl_zero ⟨n % 8, by omega⟩ ⟨(s.getD (s.length - 1) 0).toNat, UInt8.toNat_lt _⟩
  simp only at hr
  rw [hr]
  unfold mayR
  rw [decide_eq_true h1, Int.toNat_natCast, Bool.true_and, Bool.eq_iff_iff, List.all_eq_true, List.all_eq_true]
  constructor
  · intro hall k hk
    have hk' := List.mem_range.1 hk
    refine hall _ (List.mem_iff_getElem?.2 ⟨k, ?_⟩)
    rw [List.getElem?_drop, bitsOf_get s (n + k) (by omega)]
    congr 1
    unfold tbit
    rw [show (n + k) / 8 = n / 8 by omega, show (n + k) % 8 = n % 8 + k by omega, hl]
  · intro hall b hb
    obtain ⟨k, hk⟩ := List.mem_iff_getElem?.1 hb
    rw [List.getElem?_drop] at hk
    have hlt := (List.getElem?_eq_some_iff.1 hk).1
    rw [bitsOf_length] at hlt
    rw [bitsOf_get s (n + k) hlt] at hk
    have := hall k (List.mem_range.2 (by omega))
    rw [← Option.some.inj hk]
    unfold tbit
    rw [show (n + k) / 8 = n / 8 by omega, show (n + k) % 8 = n % 8 + k by omega, ← hl]
    exact this
end K
end Go.Proofs.Ytdaenajhgbagdaa
namespace Go.Proofs.Ytdaenajhgbagdaa
namespace K
set_option linter.unusedVariables false

/-- The bits of one piece. -/
def oneJoin (p : List UInt8 × Int) : List Bool := (bitsOf p.1).take p.2.toNat
/-- All bits, one behind the other. -/
def joinBits (ps : List (List UInt8 × Int)) : List Bool := ps.flatMap oneJoin
/-- How many bytes they have together. -/
def total (ps : List (List UInt8 × Int)) : Nat := (ps.map fun p => p.1.length).sum
/-- What Join answers. -/
def joinR (ps : List (List UInt8 × Int)) : List UInt8 × Int × Nat :=
  if ps.all fun p => mayR p.1 p.2 then (pack (joinBits ps), ((joinBits ps).length : Nat), 0) else ([], 0, 2)
theorem oneJoin_len (p : List UInt8 × Int) : (oneJoin p).length ≤ 8 * p.1.length := by
  unfold oneJoin; rw [List.length_take, bitsOf_length]; omega
theorem joinBits_len (ps : List (List UInt8 × Int)) : (joinBits ps).length ≤ 8 * total ps := by
  induction ps with
  | nil => simp [joinBits, total]
  | cons p ps ih =>
    have h1 := oneJoin_len p
    have e1 : joinBits (p :: ps) = oneJoin p ++ joinBits ps := by simp [joinBits]
    have e2 : total (p :: ps) = p.1.length + total ps := by simp [total]
    rw [e1, e2, List.length_append]; omega
theorem total_take (ps : List (List UInt8 × Int)) (j : Nat) : total (ps.take j) ≤ total ps := by
  have : total ps = total (ps.take j) + total (ps.drop j) := by
    conv => lhs; rw [← List.take_append_drop j ps]
    simp only [total, List.map_append, List.sum_append]
  omega
theorem total_get (ps : List (List UInt8 × Int)) (j : Nat) (p : List UInt8 × Int) (h : ps[j]? = some p) : p.1.length ≤ total ps := by
  induction ps generalizing j with
  | nil => simp at h
  | cons q ps ih =>
    have e2 : total (q :: ps) = q.1.length + total ps := by simp [total]
    cases j with
    | zero => simp at h; subst h; omega
    | succ j => have := ih j (by simpa using h); omega
theorem joinBits_take (ps : List (List UInt8 × Int)) (j : Nat) (p : List UInt8 × Int) (h : ps[j]? = some p) : joinBits (ps.take (j + 1)) = joinBits (ps.take j) ++ oneJoin p := by
  have hj := (List.getElem?_eq_some_iff.1 h).1
  rw [List.take_succ_eq_append_getElem hj]
  rw [List.getElem?_eq_getElem hj] at h
  rw [Option.some.inj h]
  simp [joinBits]
theorem all_take (ps : List (List UInt8 × Int)) (f : List UInt8 × Int → Bool) (j : Nat) (p : List UInt8 × Int) (h : ps[j]? = some p) : (ps.take (j + 1)).all f = ((ps.take j).all f && f p) := by
  have hj := (List.getElem?_eq_some_iff.1 h).1
  rw [List.take_succ_eq_append_getElem hj]
  rw [List.getElem?_eq_getElem hj] at h
  rw [Option.some.inj h]
  simp
theorem all_false (ps : List (List UInt8 × Int)) (f : List UInt8 × Int → Bool) (j : Nat) (p : List UInt8 × Int) (h : ps[j]? = some p) (hf : f p = false) : ps.all f = false := by
  cases hall : ps.all f with
  | false => rfl
  | true =>
    have := (List.all_eq_true.1 hall) p (List.mem_of_getElem? h)
    rw [hf] at this; cases this
theorem joinR_no (ps : List (List UInt8 × Int)) (j : Nat) (p : List UInt8 × Int) (h : ps[j]? = some p) (hf : mayR p.1 p.2 = false) : joinR ps = ([], 0, 2) := by
  unfold joinR
  rw [all_false ps (fun p => mayR p.1 p.2) j p h hf]
  rfl
theorem mayR_range (s : List UInt8) (n : Int) (h : mayR s n = true) : 0 ≤ n ∧ n ≤ (8 * s.length : Nat) := by
  unfold mayR at h
  rw [Bool.and_eq_true] at h
  have := of_decide_eq_true h.1
  exact ⟨this.1, this.2.1⟩
end K
end Go.Proofs.Ytdaenajhgbagdaa
namespace Go.Proofs.Ytdaenajhgbagdaa
namespace K

theorem mayR_pack (p : List Bool) : mayR (pack p) (p.length : Nat) = true := by
  have hl := pack_length p
  unfold mayR
  rw [Bool.and_eq_true]
  refine ⟨by simp; omega, List.all_eq_true.2 fun b hb => ?_⟩
  obtain ⟨j, hj⟩ := List.getElem?_of_mem hb
  rw [Int.toNat_natCast, List.getElem?_drop] at hj
  have hlt := (List.getElem?_eq_some_iff.1 hj).1
  rw [bitsOf_length] at hlt
  rw [bitsOf_get _ _ hlt, tbit_pack _ _ hlt] at hj
  have : p.getD (p.length + j) false = false := by rw [List.getD_eq_getElem?_getD, List.getElem?_eq_none (by omega)]; rfl
  rw [this] at hj
  injection hj with hj
  subst hj
  rfl
theorem oneJoin_pack (p : List Bool) : oneJoin (pack p, (p.length : Nat)) = p := by
  have := piece_pack p 0 p.length (by omega)
  unfold piece at this
  unfold oneJoin
  rw [Int.toNat_natCast]
  simpa using this
theorem joinR_two (p q : List Bool) : joinR [(pack p, (p.length : Nat)), (pack q, (q.length : Nat))] = (pack (p ++ q), ((p.length + q.length : Nat) : Int), 0) := by
  unfold joinR
  have e : joinBits [(pack p, ((p.length : Nat) : Int)), (pack q, ((q.length : Nat) : Int))] = p ++ q := by simp [joinBits, oneJoin_pack]
  rw [e]
  simp [mayR_pack]
theorem piece_two (l : List Bool) (i n m : Nat) : piece l i n ++ piece l (i + n) m = piece l i (n + m) := by
  unfold piece
  rw [List.take_add, List.drop_drop]
theorem piece_len (l : List Bool) (i n : Nat) (h : i + n ≤ l.length) : (piece l i n).length = n := by
  unfold piece; rw [List.length_take, List.length_drop]; omega
theorem sliceR_in (s : List UInt8) (i n : Nat) (h : i + n ≤ 8 * s.length) : sliceR s i n = (pack (piece (bitsOf s) i n), (n : Int), 0) := by
  unfold sliceR
  rw [if_neg (by omega)]
  rfl
/-- Two parts that lie side by side, joined, are the part. -/
theorem parts (s : List UInt8) (i n m : Nat) (h : i + n + m ≤ 8 * s.length) :
    joinR [(pack (piece (bitsOf s) i n), (n : Int)), (pack (piece (bitsOf s) (i + n) m), (m : Int))] = (pack (piece (bitsOf s) i (n + m)), ((n + m : Nat) : Int), 0) := by
  have h1 := piece_len (bitsOf s) i n (by rw [bitsOf_length]; omega)
  have h2 := piece_len (bitsOf s) (i + n) m (by rw [bitsOf_length]; omega)
  have := joinR_two (piece (bitsOf s) i n) (piece (bitsOf s) (i + n) m)
  rw [h1, h2, piece_two] at this
  exact this
end K
end Go.Proofs.Ytdaenajhgbagdaa
namespace Go.Proofs.Ytdaenajhgbagdaa
namespace K

/-- The bits from the length ahead to the next. -/
def stepBits (now x : Int) : List Bool := (List.replicate (x - now).toNat [true, false]).flatten ++ ((List.replicate (now - x).toNat [true, true]).flatten ++ [false])
def showFrom (now : Int) : List Int → List Bool
  | [] => []
  | x :: xs => stepBits now x ++ showFrom x xs
def showBits (xs : List Int) : List Bool := low (xs.headD 0).toNat 5 ++ showFrom (xs.headD 0) xs
/-- These lengths may be told. -/
def lensOk (xs : List Int) : Bool := decide (2 ≤ xs.length ∧ xs.length ≤ 258) && xs.all fun x => decide (1 ≤ x ∧ x ≤ 20)
def showR (xs : List Int) : List UInt8 × Int × Nat := if lensOk xs then (pack (showBits xs), ((showBits xs).length : Nat), 0) else ([], 0, 80)

theorem step_up (now x : Int) (h : now < x) : stepBits now x = true :: false :: stepBits (now + 1) x := by
  unfold stepBits
  obtain ⟨k, hk⟩ : ∃ k : Nat, (x - now).toNat = k + 1 := ⟨(x - now).toNat - 1, by omega⟩
  rw [hk, show (x - (now + 1)).toNat = k by omega, show (now - x).toNat = 0 by omega, show (now + 1 - x).toNat = 0 by omega, List.replicate_succ]
  simp
theorem step_down (now x : Int) (h : x < now) : stepBits now x = true :: true :: stepBits (now - 1) x := by
  unfold stepBits
  obtain ⟨k, hk⟩ : ∃ k : Nat, (now - x).toNat = k + 1 := ⟨(now - x).toNat - 1, by omega⟩
  rw [hk, show (now - 1 - x).toNat = k by omega, show (x - now).toNat = 0 by omega, show (x - (now - 1)).toNat = 0 by omega, List.replicate_succ]
  simp
theorem step_same (x : Int) : stepBits x x = [false] := by simp [stepBits]
theorem step_len (now x : Int) : (stepBits now x).length = 1 + 2 * (x - now).natAbs := by
  unfold stepBits
  simp only [List.length_append, List.length_flatten, List.map_replicate, List.sum_replicate_nat, List.length_cons, List.length_nil]
  omega
theorem showFrom_cons (now x : Int) (xs : List Int) : showFrom now (x :: xs) = stepBits now x ++ showFrom x xs := rfl
theorem showFrom_len (now : Int) (xs : List Int) (h0 : 1 ≤ now ∧ now ≤ 20) (h : ∀ x ∈ xs, 1 ≤ x ∧ x ≤ 20) : (showFrom now xs).length ≤ 39 * xs.length := by
  induction xs generalizing now with
  | nil => simp [showFrom]
  | cons x xs ih =>
    have hx := h x (by simp)
    have := ih x hx (fun y hy => h y (by simp [hy]))
    have hl := step_len now x
    rw [showFrom_cons, List.length_append, List.length_cons]
    omega
theorem lensOk_iff (xs : List Int) : lensOk xs = true ↔ (2 ≤ xs.length ∧ xs.length ≤ 258) ∧ ∀ x ∈ xs, 1 ≤ x ∧ x ≤ 20 := by
  unfold lensOk
  simp [List.all_eq_true]
theorem head_mem (xs : List Int) (h : 0 < xs.length) : xs.headD 0 ∈ xs := by
  cases xs with
  | nil => simp at h
  | cons x xs => simp
theorem showBits_len (xs : List Int) (h : lensOk xs = true) : (showBits xs).length ≤ 20000 := by
  obtain ⟨⟨h1, h2⟩, h3⟩ := (lensOk_iff xs).1 h
  have := showFrom_len (xs.headD 0) xs (h3 _ (head_mem xs (by omega))) h3
  unfold showBits
  rw [List.length_append]
  have hl : (low (xs.headD 0).toNat 5).length = 5 := by simp [low]
  omega
theorem lensOk_no (xs : List Int) (h : ¬ (2 ≤ xs.length ∧ xs.length ≤ 258)) : lensOk xs = false := by
  cases e : lensOk xs with
  | false => rfl
  | true => exact absurd ((lensOk_iff xs).1 e).1 h
theorem lensOk_bad (xs : List Int) (i : Nat) (x : Int) (hx : xs[i]? = some x) (h : x < 1 ∨ 20 < x) : lensOk xs = false := by
  cases e : lensOk xs with
  | false => rfl
  | true => have := ((lensOk_iff xs).1 e).2 x (List.mem_of_getElem? hx); omega

/-! ### Lengths read -/
/-- Lengths are read, till there are n. -/
def lens (n : Nat) : List Int → Int → Nat → List Bool → List Int × Nat × Nat
  | acc, now, p, l => if n ≤ acc.length then (acc, p, 0) else if now < 1 ∨ 20 < now then ([], 0, 80) else
    match l with
    | [] => ([], 0, 10)
    | false :: r => lens n (acc ++ [now]) now (p + 1) r
    | [true] => ([], 0, 10)
    | true :: false :: r => lens n acc (now + 1) (p + 2) r
    | true :: true :: r => lens n acc (now - 1) (p + 2) r
def lensR (bs : List Bool) (at_ n : Int) : List Int × Nat × Nat :=
  if at_ < 0 ∨ (bs.length : Nat) < at_ ∨ n < 2 ∨ 258 < n then ([], 0, 2) else if bs.length < at_.toNat + 5 then ([], 0, 10) else
    lens n.toNat [] (num (piece bs at_.toNat 5)) (at_.toNat + 5) (bs.drop (at_.toNat + 5))
theorem lens_done (n : Nat) (acc : List Int) (now : Int) (p : Nat) (l : List Bool) (h : n ≤ acc.length) : lens n acc now p l = (acc, p, 0) := by
  unfold lens; rw [if_pos h]
theorem lens_bad (n : Nat) (acc : List Int) (now : Int) (p : Nat) (l : List Bool) (h : acc.length < n) (hn : now < 1 ∨ 20 < now) : lens n acc now p l = ([], 0, 80) := by
  unfold lens; rw [if_neg (by omega), if_pos hn]
theorem lens_end (n : Nat) (acc : List Int) (now : Int) (p : Nat) (h : acc.length < n) (hn : ¬ (now < 1 ∨ 20 < now)) : lens n acc now p [] = ([], 0, 10) := by
  unfold lens; rw [if_neg (by omega), if_neg hn]
theorem lens_zero (n : Nat) (acc : List Int) (now : Int) (p : Nat) (r : List Bool) (h : acc.length < n) (hn : ¬ (now < 1 ∨ 20 < now)) : lens n acc now p (false :: r) = lens n (acc ++ [now]) now (p + 1) r := by
  rw [lens, if_neg (by omega), if_neg hn]
theorem lens_short (n : Nat) (acc : List Int) (now : Int) (p : Nat) (h : acc.length < n) (hn : ¬ (now < 1 ∨ 20 < now)) : lens n acc now p [true] = ([], 0, 10) := by
  rw [lens, if_neg (by omega), if_neg hn]
theorem lens_up (n : Nat) (acc : List Int) (now : Int) (p : Nat) (r : List Bool) (h : acc.length < n) (hn : ¬ (now < 1 ∨ 20 < now)) : lens n acc now p (true :: false :: r) = lens n acc (now + 1) (p + 2) r := by
  rw [lens, if_neg (by omega), if_neg hn]
theorem lens_down (n : Nat) (acc : List Int) (now : Int) (p : Nat) (r : List Bool) (h : acc.length < n) (hn : ¬ (now < 1 ∨ 20 < now)) : lens n acc now p (true :: true :: r) = lens n acc (now - 1) (p + 2) r := by
  rw [lens, if_neg (by omega), if_neg hn]

/-! ### What was told is read -/
theorem lens_step (n : Nat) (acc : List Int) (x : Int) (rest : List Bool) (h : acc.length < n) (hx : 1 ≤ x ∧ x ≤ 20) : ∀ (d : Nat) (now : Int) (p : Nat), (x - now).natAbs = d → (1 ≤ now ∧ now ≤ 20) →
    lens n acc now p (stepBits now x ++ rest) = lens n (acc ++ [x]) x (p + (stepBits now x).length) rest := by
  intro d
  induction d with
  | zero =>
    intro now p hd hn
    obtain rfl : now = x := by omega
    rw [step_same]
    exact lens_zero n acc now p rest h (by omega)
  | succ d ih =>
    intro now p hd hn
    by_cases hlt : now < x
    · rw [step_up now x hlt]
      simp only [List.cons_append, List.length_cons]
      rw [lens_up n acc now p _ h (by omega), ih (now + 1) (p + 2) (by omega) (by omega)]
      congr 1
      omega
    · rw [step_down now x (by omega)]
      simp only [List.cons_append, List.length_cons]
      rw [lens_down n acc now p _ h (by omega), ih (now - 1) (p + 2) (by omega) (by omega)]
      congr 1
      omega
theorem lens_back (n : Nat) (xs : List Int) : ∀ (acc : List Int) (now : Int) (p : Nat) (rest : List Bool), acc.length + xs.length = n → (1 ≤ now ∧ now ≤ 20) → (∀ x ∈ xs, 1 ≤ x ∧ x ≤ 20) →
    lens n acc now p (showFrom now xs ++ rest) = (acc ++ xs, p + (showFrom now xs).length, 0) := by
  induction xs with
  | nil =>
    intro acc now p rest hl hn hx
    rw [lens_done _ _ _ _ _ (by simp at hl; omega)]
    simp [showFrom]
  | cons x xs ih =>
    intro acc now p rest hl hn hx
    rw [List.length_cons] at hl
    rw [showFrom_cons, List.append_assoc, lens_step n acc x _ (by omega) (hx x (by simp)) _ now p rfl hn, ih _ x _ _ (by simp; omega) (hx x (by simp)) (fun y hy => hx y (by simp [hy]))]
    simp [Nat.add_assoc]
end K
end Go.Proofs.Ytdaenajhgbagdaa
namespace Go.Proofs.Ytdaenajhgbagdaa
namespace K
theorem lens_len (n : Nat) (acc : List Int) (now : Int) (p : Nat) (l : List Bool) (h : acc.length ≤ n) : (lens n acc now p l).1.length ≤ n := by
  induction hl : l.length using Nat.strongRecOn generalizing acc now p l with
  | _ k ih =>
    by_cases hd : n ≤ acc.length
    · rw [lens_done _ _ _ _ _ hd]; exact h
    · by_cases hb : now < 1 ∨ 20 < now
      · rw [lens_bad _ _ _ _ _ (by omega) hb]; simp
      · match l, hl with
        | [], _ => rw [lens_end _ _ _ _ (by omega) hb]; simp
        | false :: r, hl => rw [lens_zero _ _ _ _ _ (by omega) hb]; exact ih r.length (by simp at hl; omega) _ _ _ _ (by simp; omega) rfl
        | [true], _ => rw [lens_short _ _ _ _ (by omega) hb]; simp
        | true :: false :: r, hl => rw [lens_up _ _ _ _ _ (by omega) hb]; exact ih r.length (by simp at hl; omega) _ _ _ _ h rfl
        | true :: true :: r, hl => rw [lens_down _ _ _ _ _ (by omega) hb]; exact ih r.length (by simp at hl; omega) _ _ _ _ h rfl
theorem lensR_len (bs : List Bool) (at_ n : Int) : (lensR bs at_ n).1.length ≤ 140737488351232 := by
  unfold lensR
  split
  · simp
  · split
    · simp
    · have := lens_len n.toNat [] (num (piece bs at_.toNat 5)) (at_.toNat + 5) (bs.drop (at_.toNat + 5)) (by simp)
      omega
end K
end Go.Proofs.Ytdaenajhgbagdaa
namespace Go.Proofs.Ytdaenajhgbagdaa
namespace K
theorem bitsOf_append (a b : List UInt8) : bitsOf (a ++ b) = bitsOf a ++ bitsOf b := by
  apply List.ext_getElem?
  intro i
  by_cases h : i < 8 * a.length
  · rw [bitsOf_get _ _ (by rw [List.length_append]; omega), List.getElem?_append_left (by rw [bitsOf_length]; exact h), bitsOf_get _ _ h]
    unfold tbit
    have e : (a ++ b).getD (i / 8) 0 = a.getD (i / 8) 0 := by
      rw [List.getD_eq_getElem?_getD, List.getElem?_append_left (by omega), ← List.getD_eq_getElem?_getD]
    rw [e]
  · rw [List.getElem?_append_right (by rw [bitsOf_length]; omega), bitsOf_length]
    by_cases h2 : i < 8 * (a ++ b).length
    · rw [List.length_append] at h2
      rw [bitsOf_get _ _ (by rw [List.length_append]; omega), bitsOf_get _ _ (by omega)]
      unfold tbit
      have e : (a ++ b).getD (i / 8) 0 = b.getD ((i - 8 * a.length) / 8) 0 := by
        rw [List.getD_eq_getElem?_getD, List.getElem?_append_right (by omega), ← List.getD_eq_getElem?_getD]
        congr 1
        omega
      rw [e, show (i - 8 * a.length) % 8 = i % 8 by omega]
    · rw [List.length_append] at h2
      rw [List.getElem?_eq_none (by rw [bitsOf_length, List.length_append]; omega), List.getElem?_eq_none (by rw [bitsOf_length]; omega)]
theorem bitsOf_pack (B : List Bool) : ∃ pad, bitsOf (pack B) = B ++ pad := by
  refine ⟨(bitsOf (pack B)).drop B.length, ?_⟩
  have := piece_pack B 0 B.length (by omega)
  unfold piece at this
  simp at this
  have h := List.take_append_drop B.length (bitsOf (pack B))
  rw [this] at h
  exact h.symm
theorem lensR_tail (P R : List Bool) (v n : Nat) (hv : v < 32) (hn : 2 ≤ n ∧ n ≤ 258) : lensR (P ++ (low v 5 ++ R)) (P.length : Nat) (n : Nat) = lens n [] (v : Int) (P.length + 5) R := by
  have hl : (low v 5).length = 5 := by simp [low]
  unfold lensR
  rw [if_neg (by simp only [List.length_append]; omega), Int.toNat_natCast, if_neg (by simp only [List.length_append]; omega), Int.toNat_natCast]
  have e1 : piece (P ++ (low v 5 ++ R)) P.length 5 = low v 5 := by
    have := piece_append P (low v 5) R
    rw [hl, List.append_assoc] at this
    exact this
  have e2 : (P ++ (low v 5 ++ R)).drop (P.length + 5) = R := by
    have h5 : (P ++ low v 5).length = P.length + 5 := by rw [List.length_append, hl]
    rw [← List.append_assoc, ← h5, List.drop_left]
  rw [e1, e2, num_low, Nat.mod_eq_of_lt hv]
theorem lensR_back (xs : List Int) (hok : lensOk xs = true) (A C : List UInt8) :
    lensR (bitsOf (A ++ pack (showBits xs) ++ C)) ((8 * A.length : Nat) : Int) (xs.length : Nat) = (xs, 8 * A.length + (showBits xs).length, 0) := by
  obtain ⟨⟨h1, h2⟩, h3⟩ := (lensOk_iff xs).1 hok
  obtain ⟨pad, hp⟩ := bitsOf_pack (showBits xs)
  have hx := h3 _ (head_mem xs (by omega))
  rw [bitsOf_append, bitsOf_append, hp, List.append_assoc, List.append_assoc]
  conv => lhs; rw [show (8 * A.length : Nat) = (bitsOf A).length by rw [bitsOf_length]]
  have e : showBits xs = low (xs.headD 0).toNat 5 ++ showFrom (xs.headD 0) xs := rfl
  have hlen : (showBits xs).length = 5 + (showFrom (xs.headD 0) xs).length := by rw [e, List.length_append]; simp [low]
  rw [hlen]
  rw [e, List.append_assoc, lensR_tail _ _ _ _ (by omega) ⟨h1, h2⟩]
  rw [show (((xs.headD 0).toNat : Nat) : Int) = xs.headD 0 by omega, lens_back xs.length xs [] _ _ _ (by simp) hx h3, bitsOf_length]
  simp [Nat.add_assoc]
end K
end Go.Proofs.Ytdaenajhgbagdaa
namespace Go.Proofs.Ytdaenajhgbagdaa
namespace K
set_option linter.unusedVariables false

/-! ### Lengths that may be -/
/-- How much room lengths take, of 2^20. -/
def room (ls : List Nat) : Nat := (ls.map fun x => 2 ^ (20 - x)).sum
def natsOf (l : List Int) : List Nat := l.map Int.toNat
theorem natsOf_length (l : List Int) : (natsOf l).length = l.length := by simp [natsOf]
/-- May lengths be? -/
def goodL (l : List Int) : Bool := lensOk l && decide (room (natsOf l) ≤ 1048576)
theorem goodL_lens {l : List Int} (h : goodL l = true) : lensOk l = true := by unfold goodL at h; simp at h; exact h.1
theorem goodL_room {l : List Int} (h : goodL l = true) : room (natsOf l) ≤ 1048576 := by unfold goodL at h; simp at h; exact h.2
theorem goodL_in {l : List Int} (h : goodL l = true) : ∀ x ∈ natsOf l, 1 ≤ x ∧ x ≤ 20 := by
  intro x hx
  simp only [natsOf, List.mem_map] at hx
  obtain ⟨y, hy, rfl⟩ := hx
  have := ((lensOk_iff l).1 (goodL_lens h)).2 y hy
  omega
theorem room_snoc (ls : List Nat) (x : Nat) : room (ls ++ [x]) = room ls + 2 ^ (20 - x) := by simp [room]
theorem room_le (ls : List Nat) : room ls ≤ ls.length * 1048576 := by
  induction ls with
  | nil => simp [room]
  | cons x ls ih =>
    have : 2 ^ (20 - x) ≤ 2 ^ 20 := Nat.pow_le_pow_right (by decide) (by omega)
    have e : room (x :: ls) = 2 ^ (20 - x) + room ls := by simp [room]
    rw [e, List.length_cons, Nat.succ_mul]
    have e2 : (2 : Nat) ^ 20 = 1048576 := rfl
    omega

/-! ### Codes -/
def firstP (ls : List Nat) : Nat → Nat
  | 0 => 0
  | n + 1 => 2 * (firstP ls n + ls.count n)
/-- The symbols with codes of length n, of the first i. -/
def idxsTo (ls : List Nat) (n i : Nat) : List Nat := (List.range i).filter fun j => decide (ls.getD j 0 = n)
def idxs (ls : List Nat) (n : Nat) : List Nat := idxsTo ls n ls.length
/-- Those with codes shorter than n. -/
def orderTo (ls : List Nat) : Nat → List Nat
  | 0 => []
  | n + 1 => orderTo ls n ++ idxs ls n
def codeP (ls : List Nat) (i : Nat) : Nat := firstP ls (ls.getD i 0) + (ls.take i).count (ls.getD i 0)
def codesP (ls : List Nat) : List Nat := (List.range ls.length).map (codeP ls)
theorem codesP_length (ls : List Nat) : (codesP ls).length = ls.length := by simp [codesP]
theorem codesP_get (ls : List Nat) (i : Nat) (h : i < ls.length) : (codesP ls)[i]? = some (codeP ls i) := by simp [codesP, List.getElem?_range h]
/-- Codes as bits. -/
def tabP (ls : List Nat) : List (List Bool) := (List.range ls.length).map fun i => low (codeP ls i) (ls.getD i 0)
theorem tabP_length (ls : List Nat) : (tabP ls).length = ls.length := by simp [tabP]
theorem tabP_get (ls : List Nat) (i : Nat) (h : i < ls.length) : (tabP ls)[i]? = some (low (codeP ls i) (ls.getD i 0)) := by simp [tabP, List.getElem?_range h]

theorem idxsTo_zero (ls : List Nat) (n : Nat) : idxsTo ls n 0 = [] := rfl
theorem idxsTo_yes (ls : List Nat) (n i : Nat) (h : ls.getD i 0 = n) : idxsTo ls n (i + 1) = idxsTo ls n i ++ [i] := by
  unfold idxsTo; rw [List.range_succ, List.filter_append]; congr 1; rw [List.filter_cons, if_pos (decide_eq_true h)]; rfl
theorem idxsTo_no (ls : List Nat) (n i : Nat) (h : ls.getD i 0 ≠ n) : idxsTo ls n (i + 1) = idxsTo ls n i := by
  unfold idxsTo; rw [List.range_succ, List.filter_append, List.filter_cons, if_neg (by rw [decide_eq_false h]; decide)]; simp
theorem take_count (ls : List Nat) (n i : Nat) (h : i < ls.length) : (ls.take (i + 1)).count n = (ls.take i).count n + if ls.getD i 0 = n then 1 else 0 := by
  rw [List.take_succ_eq_append_getElem h, List.count_append, List.getD, List.getElem?_eq_getElem h, Option.getD_some, List.count_singleton]
  congr 1
  by_cases he : ls[i] = n <;> simp [he]
theorem idxsTo_length (ls : List Nat) (n : Nat) : ∀ i, i ≤ ls.length → (idxsTo ls n i).length = (ls.take i).count n := by
  intro i
  induction i with
  | zero => intro _; simp [idxsTo]
  | succ i ih =>
    intro hi
    rw [take_count ls n i (by omega), ← ih (by omega)]
    by_cases he : ls.getD i 0 = n
    · rw [idxsTo_yes _ _ _ he, if_pos he]; simp
    · rw [idxsTo_no _ _ _ he, if_neg he]; simp
theorem idxs_length (ls : List Nat) (n : Nat) : (idxs ls n).length = ls.count n := by
  unfold idxs; rw [idxsTo_length ls n _ (Nat.le_refl _), List.take_length]
theorem idxsTo_get (ls : List Nat) (n k i : Nat) : ∀ m, m ≤ ls.length → ((idxsTo ls n m)[k]? = some i ↔ i < m ∧ ls.getD i 0 = n ∧ (ls.take i).count n = k) := by
  intro m
  induction m with
  | zero => intro _; simp [idxsTo]
  | succ m ih =>
    intro hm
    have ih := ih (by omega)
    have hlen := idxsTo_length ls n m (by omega)
    by_cases he : ls.getD m 0 = n
    · rw [idxsTo_yes _ _ _ he]
      rcases Nat.lt_or_ge k (idxsTo ls n m).length with hk | hk
      · rw [List.getElem?_append_left hk, ih]
        constructor
        · exact fun h => ⟨by omega, h.2⟩
        · rintro ⟨h1, h2, h3⟩
          refine ⟨?_, h2, h3⟩
          rcases Nat.lt_or_ge i m with h | h
          · exact h
          · obtain rfl : i = m := by omega
            omega
      · rw [List.getElem?_append_right hk]
        constructor
        · intro h
          have hlt := (List.getElem?_eq_some_iff.1 h).1
          simp at hlt
          have hz : k - (idxsTo ls n m).length = 0 := by omega
          rw [hz] at h
          simp at h
          subst h
          exact ⟨by omega, he, by omega⟩
        · rintro ⟨h1, h2, h3⟩
          rcases Nat.lt_or_ge i m with h | h
          · have := (ih.2 ⟨h, h2, h3⟩)
            have := (List.getElem?_eq_some_iff.1 this).1
            omega
          · obtain rfl : i = m := by omega
            have hz : k - (idxsTo ls n i).length = 0 := by omega
            rw [hz]; rfl
    · rw [idxsTo_no _ _ _ he, ih]
      constructor
      · exact fun h => ⟨by omega, h.2⟩
      · rintro ⟨h1, h2, h3⟩
        refine ⟨?_, h2, h3⟩
        rcases Nat.lt_or_ge i m with h | h
        · exact h
        · obtain rfl : i = m := by omega
          exact absurd h2 he
theorem idxs_get (ls : List Nat) (n k i : Nat) : (idxs ls n)[k]? = some i ↔ i < ls.length ∧ ls.getD i 0 = n ∧ (ls.take i).count n = k := idxsTo_get ls n k i ls.length (Nat.le_refl _)
theorem orderTo_more (ls : List Nat) (n : Nat) : ∀ d, ∃ t, orderTo ls (n + d) = orderTo ls n ++ t := by
  intro d
  induction d with
  | zero => exact ⟨[], by simp⟩
  | succ d ih => obtain ⟨t, ht⟩ := ih; exact ⟨t ++ idxs ls (n + d), by rw [show n + (d + 1) = n + d + 1 by omega, orderTo, ht, List.append_assoc]⟩
theorem orderTo_get (ls : List Nat) (n N k i : Nat) (hn : n < N) (h : (idxs ls n)[k]? = some i) : (orderTo ls N)[(orderTo ls n).length + k]? = some i := by
  obtain ⟨t, ht⟩ := orderTo_more ls (n + 1) (N - (n + 1))
  rw [show n + 1 + (N - (n + 1)) = N by omega] at ht
  have hk := (List.getElem?_eq_some_iff.1 h).1
  rw [ht, orderTo, List.append_assoc, List.getElem?_append_right (by omega), Nat.add_sub_cancel_left, List.getElem?_append_left hk]
  exact h
theorem orderTo_inv (ls : List Nat) : ∀ N k i, (orderTo ls N)[k]? = some i → i < ls.length ∧ ls.getD i 0 < N ∧ k = (orderTo ls (ls.getD i 0)).length + (ls.take i).count (ls.getD i 0) := by
  intro N
  induction N with
  | zero => intro k i h; simp [orderTo] at h
  | succ N ih =>
    intro k i h
    rw [orderTo] at h
    rcases Nat.lt_or_ge k (orderTo ls N).length with hk | hk
    · rw [List.getElem?_append_left hk] at h
      obtain ⟨h1, h2, h3⟩ := ih k i h
      exact ⟨h1, by omega, h3⟩
    · rw [List.getElem?_append_right hk] at h
      obtain ⟨h1, h2, h3⟩ := (idxs_get ls N _ i).1 h
      subst h2
      exact ⟨h1, by omega, by omega⟩
theorem orderTo_lt (ls : List Nat) (N : Nat) : ∀ i ∈ orderTo ls N, i < ls.length := by
  intro i hi
  obtain ⟨k, hk⟩ := List.getElem?_of_mem hi
  exact (orderTo_inv ls N k i hk).1
theorem orderTo_all (ls : List Nat) (N : Nat) (h : ∀ x ∈ ls, x < N) (i : Nat) (hi : i < ls.length) : ∃ k : Nat, (orderTo ls N)[k]? = some i := by
  have hm : ls.getD i 0 < N := by
    rw [List.getD, List.getElem?_eq_getElem hi]; exact h _ (List.getElem_mem hi)
  exact ⟨_, orderTo_get ls (ls.getD i 0) N _ i hm ((idxs_get ls _ _ i).2 ⟨hi, rfl, rfl⟩)⟩

/-! ### Room -/
theorem upto (ls : List Nat) (n : Nat) : firstP ls n + ls.count n = (ls.map fun x => if x ≤ n then 2 ^ (n - x) else 0).sum := by
  induction n with
  | zero =>
    rw [firstP, Nat.zero_add]
    induction ls with
    | nil => rfl
    | cons x ls ih =>
      rw [List.count_cons, List.map_cons, List.sum_cons, ih]
      by_cases hx : x = 0
      · subst hx; simp; omega
      · simp [hx]
  | succ n ih =>
    rw [firstP, ih]
    clear ih
    induction ls with
    | nil => rfl
    | cons x ls ih =>
      rw [List.count_cons, List.map_cons, List.sum_cons, List.map_cons, List.sum_cons, ← ih]
      have hp : (2 : Nat) ^ (n + 1 - (n + 1)) = 1 := by simp
      by_cases hx : x ≤ n
      · have e1 : (if x ≤ n then 2 ^ (n - x) else 0) = 2 ^ (n - x) := if_pos hx
        have e2 : (if x ≤ n + 1 then 2 ^ (n + 1 - x) else 0) = 2 * 2 ^ (n - x) := by rw [if_pos (by omega), show n + 1 - x = (n - x) + 1 by omega, Nat.pow_succ]; omega
        have e3 : (x == n + 1) = false := by simp; omega
        rw [e1, e2, e3]; simp; omega
      · have e1 : (if x ≤ n then 2 ^ (n - x) else 0) = 0 := if_neg hx
        rw [e1]
        by_cases hx2 : x = n + 1
        · subst hx2
          rw [if_pos (Nat.le_refl _), hp]; simp; omega
        · have e3 : (x == n + 1) = false := by simp; omega
          rw [if_neg (show ¬ x ≤ n + 1 by omega), e3]; simp
theorem upto_le (ls : List Nat) (h20 : ∀ x ∈ ls, x ≤ 20) (n : Nat) (hn : n ≤ 20) : (firstP ls n + ls.count n) * 2 ^ (20 - n) ≤ room ls := by
  rw [upto]
  unfold room
  induction ls with
  | nil => simp
  | cons x ls ih =>
    have ih := ih (fun y hy => h20 y (by simp [hy]))
    have hx := h20 x (by simp)
    rw [List.map_cons, List.sum_cons, List.map_cons, List.sum_cons, Nat.add_mul]
    by_cases hxn : x ≤ n
    · rw [if_pos hxn, ← Nat.pow_add, show n - x + (20 - n) = 20 - x by omega]; omega
    · rw [if_neg hxn, Nat.zero_mul, Nat.zero_add]; exact Nat.le_trans ih (Nat.le_add_left _ _)
theorem fits (ls : List Nat) (h20 : ∀ x ∈ ls, x ≤ 20) (hr : room ls ≤ 1048576) (n : Nat) (hn : n ≤ 20) : firstP ls n + ls.count n ≤ 2 ^ n := by
  have h1 := upto_le ls h20 n hn
  have h2 : (firstP ls n + ls.count n) * 2 ^ (20 - n) ≤ 2 ^ n * 2 ^ (20 - n) := by
    rw [← Nat.pow_add, show n + (20 - n) = 20 by omega]
    exact Nat.le_trans h1 hr
  exact Nat.le_of_mul_le_mul_right h2 (Nat.two_pow_pos _)
theorem first_more (ls : List Nat) (n : Nat) : ∀ d, (firstP ls n + ls.count n) * 2 ^ (d + 1) ≤ firstP ls (n + d + 1) := by
  intro d
  induction d with
  | zero => rw [firstP]; omega
  | succ d ih =>
    rw [show n + (d + 1) + 1 = (n + d + 1) + 1 by omega, firstP, Nat.pow_succ, ← Nat.mul_assoc]
    omega
theorem code_in (ls : List Nat) (i : Nat) (hi : i < ls.length) : firstP ls (ls.getD i 0) ≤ codeP ls i ∧ codeP ls i < firstP ls (ls.getD i 0) + ls.count (ls.getD i 0) := by
  unfold codeP
  refine ⟨by omega, ?_⟩
  have h1 := take_count ls (ls.getD i 0) i hi
  rw [if_pos rfl] at h1
  have h2 : (ls.take (i + 1)).count (ls.getD i 0) ≤ ls.count (ls.getD i 0) := (List.take_sublist _ _).count_le _
  omega
theorem code_lt (ls : List Nat) (h20 : ∀ x ∈ ls, x ≤ 20) (hr : room ls ≤ 1048576) (i : Nat) (hi : i < ls.length) : codeP ls i < 2 ^ (ls.getD i 0) := by
  have hx : ls.getD i 0 ≤ 20 := by rw [List.getD, List.getElem?_eq_getElem hi]; exact h20 _ (List.getElem_mem hi)
  have := fits ls h20 hr _ hx
  have := code_in ls i hi
  omega
theorem code_at (ls : List Nat) (n k i : Nat) (h : (idxs ls n)[k]? = some i) : codeP ls i = firstP ls n + k := by
  obtain ⟨h1, h2, h3⟩ := (idxs_get ls n k i).1 h
  unfold codeP
  rw [h2, h3]
theorem code_has (ls : List Nat) (n c : Nat) (h1 : firstP ls n ≤ c) (h2 : c < firstP ls n + ls.count n) : ∃ i, i < ls.length ∧ ls.getD i 0 = n ∧ codeP ls i = c ∧ (idxs ls n)[c - firstP ls n]? = some i := by
  have hk : c - firstP ls n < (idxs ls n).length := by rw [idxs_length]; omega
  have hg := List.getElem?_eq_getElem hk
  obtain ⟨h3, h4, h5⟩ := (idxs_get ls n _ _).1 hg
  exact ⟨_, h3, h4, by rw [code_at ls n _ _ hg]; omega, hg⟩
theorem code_one (ls : List Nat) (i j : Nat) (hi : i < ls.length) (hj : j < ls.length) (hl : ls.getD i 0 = ls.getD j 0) (hc : codeP ls i = codeP ls j) : i = j := by
  have h1 := (idxs_get ls (ls.getD i 0) _ i).2 ⟨hi, rfl, rfl⟩
  have h2 := (idxs_get ls (ls.getD i 0) _ j).2 ⟨hj, hl.symm, rfl⟩
  unfold codeP at hc
  rw [← hl] at hc
  rw [show (ls.take i).count (ls.getD i 0) = (ls.take j).count (ls.getD i 0) by omega, h2] at h1
  exact (Option.some.inj h1).symm

/-! ### Begins some longer code with c? -/
def beginsP (ls : List Nat) (c n : Nat) : Bool := (List.range 21).any fun m => decide (n < m ∧ 0 < ls.count m ∧ c * 2 ^ (m - n) < firstP ls m + ls.count m)
theorem beginsP_iff (ls : List Nat) (c n : Nat) : beginsP ls c n = true ↔ ∃ m, m ≤ 20 ∧ n < m ∧ 0 < ls.count m ∧ c * 2 ^ (m - n) < firstP ls m + ls.count m := by
  unfold beginsP
  simp only [List.any_eq_true, List.mem_range, decide_eq_true_eq]
  constructor
  · rintro ⟨m, h1, h2⟩; exact ⟨m, by omega, h2⟩
  · rintro ⟨m, h1, h2⟩; exact ⟨m, by omega, h2⟩
theorem begins_some (ls : List Nat) (c n : Nat) (hc : firstP ls n + ls.count n ≤ c) (h : beginsP ls c n = true) : ∃ i, i < ls.length ∧ n < ls.getD i 0 ∧ codeP ls i / 2 ^ (ls.getD i 0 - n) = c := by
  rw [beginsP_iff] at h
  have hex : ∃ m, m ≤ 20 ∧ n < m ∧ 0 < ls.count m ∧ c * 2 ^ (m - n) < firstP ls m + ls.count m := h
  clear h
  -- the least such m
  have least : ∀ b, (∃ m, m ≤ b ∧ n < m ∧ 0 < ls.count m ∧ c * 2 ^ (m - n) < firstP ls m + ls.count m) →
      ∃ m, n < m ∧ 0 < ls.count m ∧ c * 2 ^ (m - n) < firstP ls m + ls.count m ∧ ∀ j, n < j → j < m → 0 < ls.count j → firstP ls j + ls.count j ≤ c * 2 ^ (j - n) := by
    intro b
    induction b with
    | zero => rintro ⟨m, h1, h2, -⟩; omega
    | succ b ih =>
      rintro ⟨m, h1, h2, h3, h4⟩
      by_cases hsm : ∃ m, m ≤ b ∧ n < m ∧ 0 < ls.count m ∧ c * 2 ^ (m - n) < firstP ls m + ls.count m
      · exact ih hsm
      · refine ⟨m, h2, h3, h4, fun j hj1 hj2 hj3 => ?_⟩
        rcases Nat.lt_or_ge (c * 2 ^ (j - n)) (firstP ls j + ls.count j) with h | h
        · exact absurd ⟨j, by omega, hj1, hj3, h⟩ hsm
        · exact h
  obtain ⟨m, hm1, hm2, hm3, hleast⟩ := least 20 hex
  have key : ∀ d, n + d < m → firstP ls (n + d) + ls.count (n + d) ≤ c * 2 ^ d := by
    intro d
    induction d with
    | zero => intro _; simpa using hc
    | succ d ih =>
      intro hd
      have ih := ih (by omega)
      rcases Nat.eq_zero_or_pos (ls.count (n + (d + 1))) with h0 | h0
      · rw [h0, show n + (d + 1) = (n + d) + 1 by omega, firstP, Nat.pow_succ, ← Nat.mul_assoc]
        omega
      · have := hleast (n + (d + 1)) (by omega) hd h0
        rwa [show n + (d + 1) - n = d + 1 by omega] at this
  have hlast := key (m - 1 - n) (by omega)
  have hfm : firstP ls m ≤ c * 2 ^ (m - n) := by
    rw [show m = (n + (m - 1 - n)) + 1 by omega, firstP, show n + (m - 1 - n) + 1 - n = (m - 1 - n) + 1 by omega, Nat.pow_succ, ← Nat.mul_assoc]
    omega
  obtain ⟨i, hi, hl, hcd, -⟩ := code_has ls m _ hfm hm3
  refine ⟨i, hi, by omega, ?_⟩
  rw [hcd, hl]
  exact Nat.mul_div_cancel _ (Nat.two_pow_pos _)
theorem some_begins (ls : List Nat) (h20 : ∀ x ∈ ls, x ≤ 20) (c n i : Nat) (hi : i < ls.length) (hn : n < ls.getD i 0) (h : codeP ls i / 2 ^ (ls.getD i 0 - n) = c) : beginsP ls c n = true := by
  rw [beginsP_iff]
  have hx : ls.getD i 0 ≤ 20 := by rw [List.getD, List.getElem?_eq_getElem hi]; exact h20 _ (List.getElem_mem hi)
  have hin := code_in ls i hi
  refine ⟨ls.getD i 0, hx, hn, by omega, ?_⟩
  have : c * 2 ^ (ls.getD i 0 - n) ≤ codeP ls i := by rw [← h]; exact Nat.div_mul_le_self _ _
  omega
/-- A longer code's head is above all codes of its length. -/
theorem head_above (ls : List Nat) (n i : Nat) (hi : i < ls.length) (hn : n < ls.getD i 0) : firstP ls n + ls.count n ≤ codeP ls i / 2 ^ (ls.getD i 0 - n) := by
  rw [Nat.le_div_iff_mul_le (Nat.two_pow_pos _)]
  have h1 := first_more ls n (ls.getD i 0 - n - 1)
  rw [show ls.getD i 0 - n - 1 + 1 = ls.getD i 0 - n by omega, show n + (ls.getD i 0 - n - 1) + 1 = ls.getD i 0 by omega] at h1
  have := (code_in ls i hi).1
  omega
end K
end Go.Proofs.Ytdaenajhgbagdaa
namespace Go.Proofs.Ytdaenajhgbagdaa
namespace K
set_option linter.unusedVariables false

/-- n bits behind a text of bytes, out of what was packed. -/
theorem piece_behind (a : List UInt8) (bs : List Bool) (j n : Nat) (h : j + n ≤ bs.length) : piece (bitsOf (a ++ pack bs)) (8 * a.length + j) n = piece bs j n := by
  rw [← piece_pack bs j n h, bitsOf_append]
  unfold piece
  rw [List.drop_append, List.drop_of_length_le (by rw [bitsOf_length]; omega), List.nil_append, bitsOf_length]
  rw [show 8 * a.length + j - 8 * a.length = j by omega]
theorem piece_part (a b : List Bool) (j n : Nat) (h : j + n ≤ b.length) : piece (a ++ b) (a.length + j) n = piece b j n := by
  unfold piece
  rw [List.drop_append, List.drop_of_length_le (by omega), List.nil_append, show a.length + j - a.length = j by omega]
theorem getD_behind (a : List UInt8) (bs : List Bool) (j : Nat) (h : j < bs.length) : (bitsOf (a ++ pack bs)).getD (8 * a.length + j) false = bs.getD j false := by
  have := piece_behind a bs j 1 (by omega)
  unfold piece at this
  have h2 := congrArg (fun l => l[0]?) this
  simp only [List.getElem?_take, List.getElem?_drop, Nat.add_zero, Nat.zero_lt_one, if_true] at h2
  rw [List.getD, List.getD, h2]
theorem takeRows_congr (bs : List Bool) (f g : Nat → Bool) : ∀ k i p out, (∀ j, i ≤ j → j < i + k → f j = g j) → takeRows bs f k i p out = takeRows bs g k i p out := by
  intro k
  induction k with
  | zero => intro i p out _; rfl
  | succ k ih =>
    intro i p out h
    rw [takeRows, takeRows, h i (by omega) (by omega), ih (i + 1) _ _ (fun j h1 h2 => h j (by omega) (by omega)), ih (i + 1) _ _ (fun j h1 h2 => h j (by omega) (by omega))]
theorem takeSR_back (a l : List UInt8) (h0 : l ≠ []) (hl : uses l = l) : takeSR (bitsOf (a ++ pack (symBits l))) ((8 * a.length : Nat) : Int) = (l, ((8 * a.length + (symBits l).length : Nat) : Int), 0) := by
  have hlen : (symBits l).length = 16 + (rowsBits l 16).length := by unfold symBits; rw [List.length_append, headBits_length]
  have hbl : (bitsOf (a ++ pack (symBits l))).length = 8 * a.length + 8 * (((symBits l).length + 7) / 8) := by rw [bitsOf_length, List.length_append, pack_length]; omega
  unfold takeSR
  rw [if_neg (by rw [hbl]; omega), Int.toNat_natCast, if_neg (by rw [hbl]; omega)]
  have hc : takeRows (bitsOf (a ++ pack (symBits l))) (fun i => (bitsOf (a ++ pack (symBits l))).getD (8 * a.length + i) false) 16 0 (8 * a.length + 16) [] =
      takeRows (bitsOf (a ++ pack (symBits l))) (rowUsed l) 16 0 (8 * a.length + 16) [] := by
    refine takeRows_congr _ _ _ 16 0 _ _ fun j _ hj => ?_
    show (bitsOf (a ++ pack (symBits l))).getD (8 * a.length + j) false = rowUsed l j
    rw [getD_behind _ _ _ (by omega)]
    unfold symBits
    rw [List.getD, List.getElem?_append_left (by rw [headBits_length]; omega)]
    simp [headBits, List.getElem?_range (show j < 16 by omega)]
  rw [hc]
  have ht := takeRows_told (bitsOf (a ++ pack (symBits l))) l (8 * a.length + 16) (fun j n hj => by
    rw [Nat.add_assoc, piece_behind _ _ _ _ (by omega)]
    have := piece_part (headBits l) (rowsBits l 16) j n hj
    rw [headBits_length] at this
    exact this) (by rw [hbl]; omega) 16 0 rfl
  rw [show (rowsBits l 0).length = 0 from rfl, Nat.add_zero, show usesTo l (16 * 0) = [] from rfl] at ht
  rw [ht, saidR, hl, if_neg h0, hlen]
  congr 2
  omega
end K
end Go.Proofs.Ytdaenajhgbagdaa
namespace Go.Proofs.Ytdaenajhgbagdaa
namespace K
set_option linter.unusedVariables false

theorem low_take_div (v m n : Nat) (h : n ≤ m) : (low v m).take n = low (v / 2 ^ (m - n)) n := by
  apply List.ext_getElem?
  intro k
  rw [List.getElem?_take]
  split
  · rename_i hk
    rw [low_succ_get _ _ _ (by omega), low_succ_get _ _ _ hk, ← Nat.shiftRight_eq_div_pow, Nat.testBit_shiftRight]
    congr 2
    omega
  · rw [List.getElem?_eq_none (by rw [low_length]; omega)]
theorem low_eq (v n : Nat) (b : List Bool) (hv : v < 2 ^ n) (hb : b.length = n) : low v n = b ↔ v = num b := by
  constructor
  · intro h; rw [← h, num_low, Nat.mod_eq_of_lt hv]
  · intro h; rw [h, ← hb]; exact low_num b
theorem piece_snoc (bs : List Bool) (p n : Nat) (h : p + n < bs.length) : piece bs p (n + 1) = piece bs p n ++ [bs.getD (p + n) false] := by
  have h1 : n < (bs.drop p).length := by rw [List.length_drop]; omega
  unfold piece
  rw [List.take_succ_eq_append_getElem h1]
  congr 2
  rw [List.getElem_drop, List.getD, List.getElem?_eq_getElem h]
  rfl
theorem num_piece (bs : List Bool) (p n : Nat) (h : p + n < bs.length) : num (piece bs p (n + 1)) = 2 * num (piece bs p n) + (bs.getD (p + n) false).toNat := by
  rw [piece_snoc bs p n h, num_snoc]

/-- A symbol read, as the program does it: n bits are to be read next at p, code is what stands ahead. -/
def nextP (ls : List Nat) (bs : List Bool) : Nat → Nat → Nat → Nat → Nat × Nat × Nat
  | 0, _, _, _ => (0, 0, 90)
  | f + 1, n, code, p =>
    if bs.length < p + 1 then (0, 0, 10)
    else if firstP ls n ≤ 2 * code + (bs.getD p false).toNat ∧ 2 * code + (bs.getD p false).toNat < firstP ls n + ls.count n then
      ((orderTo ls 21).getD ((orderTo ls n).length + (2 * code + (bs.getD p false).toNat - firstP ls n)) 0, p + 1, 0)
    else if beginsP ls (2 * code + (bs.getD p false).toNat) n then nextP ls bs f (n + 1) (2 * code + (bs.getD p false).toNat) (p + 1) else (0, 0, 90)
/-- How many codes of the first i begin with b, and which is b. -/
def begTo (t : List (List Bool)) (b : List Bool) : Nat → Nat × Int
  | 0 => (0, -1)
  | i + 1 => if b <+: t.getD i [] then ((begTo t b i).1 + 1, if (t.getD i []).length = b.length then (i : Int) else (begTo t b i).2) else begTo t b i
/-- A symbol read, as the document says it. -/
def refNext (t : List (List Bool)) (bs : List Bool) (p : Nat) : Nat → Nat → Nat × Nat × Nat
  | 0, _ => (0, 0, 90)
  | f + 1, n => if bs.length < p + n then (0, 0, 10) else if 0 ≤ (begTo t (piece bs p n) t.length).2 then ((begTo t (piece bs p n) t.length).2.toNat, p + n, 0)
      else if (begTo t (piece bs p n) t.length).1 = 0 then (0, 0, 90) else refNext t bs p f (n + 1)
theorem begTo_le (t : List (List Bool)) (b : List Bool) (i : Nat) : (begTo t b i).1 ≤ i ∧ -1 ≤ (begTo t b i).2 ∧ (begTo t b i).2 < i := by
  induction i with
  | zero => simp [begTo]
  | succ i ih =>
    rw [begTo]
    split
    · simp only
      split <;> omega
    · omega
theorem begTo_none (t : List (List Bool)) (b : List Bool) : ∀ i, (∀ j, j < i → ¬ b <+: t.getD j []) → (begTo t b i).1 = 0 := by
  intro i
  induction i with
  | zero => intro _; rfl
  | succ i ih =>
    intro h
    rw [begTo, if_neg (h i (by omega))]
    exact ih fun j hj => h j (by omega)
theorem begTo_some (t : List (List Bool)) (b : List Bool) (j : Nat) (hb : b <+: t.getD j []) : ∀ i, j < i → (begTo t b i).1 ≠ 0 := by
  intro i
  induction i with
  | zero => intro h; omega
  | succ i ih =>
    intro h
    rw [begTo]
    split
    · simp
    · rename_i hn
      rcases Nat.lt_or_ge j i with hj | hj
      · exact ih hj
      · obtain rfl : j = i := by omega
        exact absurd hb hn
theorem begTo_not (t : List (List Bool)) (b : List Bool) : ∀ i, (∀ j, j < i → t.getD j [] ≠ b) → (begTo t b i).2 = -1 := by
  intro i
  induction i with
  | zero => intro _; rfl
  | succ i ih =>
    intro h
    have ih := ih fun j hj => h j (by omega)
    rw [begTo]
    split
    · rename_i hp
      have : ¬ (t.getD i []).length = b.length := fun hl => h i (by omega) (hp.eq_of_length hl.symm).symm
      simp only [if_neg this]
      exact ih
    · exact ih
theorem begTo_is (t : List (List Bool)) (b : List Bool) (j : Nat) (hj : t.getD j [] = b) : ∀ i, j < i → (∀ k, k < i → t.getD k [] = b → k = j) → (begTo t b i).2 = (j : Int) := by
  intro i
  induction i with
  | zero => intro h; omega
  | succ i ih =>
    intro h hu
    rw [begTo]
    rcases Nat.lt_or_ge j i with hlt | hge
    · have ih := ih hlt (fun k hk => hu k (by omega))
      split
      · rename_i hp
        have : ¬ (t.getD i []).length = b.length := fun hl => by
          have := hu i (by omega) (hp.eq_of_length hl.symm).symm
          omega
        simp only [if_neg this]
        exact ih
      · exact ih
    · obtain rfl : j = i := by omega
      rw [hj, if_pos (List.prefix_refl b)]
      simp
theorem tabP_getD (ls : List Nat) (i : Nat) (h : i < ls.length) : (tabP ls).getD i [] = low (codeP ls i) (ls.getD i 0) := by
  rw [List.getD, tabP_get ls i h]; rfl
theorem prefix_low (v m : Nat) (b : List Bool) (hb : b.length ≤ m) (hv : v < 2 ^ m) : b <+: low v m ↔ v / 2 ^ (m - b.length) = num b := by
  have hlt : v / 2 ^ (m - b.length) < 2 ^ b.length := by
    rw [Nat.div_lt_iff_lt_mul (Nat.two_pow_pos _), ← Nat.pow_add, show b.length + (m - b.length) = m by omega]
    exact hv
  rw [List.prefix_iff_eq_take, low_take_div _ _ _ hb, ← low_eq _ _ b hlt rfl]
  exact eq_comm

theorem next_same (ls : List Nat) (h1 : ∀ x ∈ ls, 1 ≤ x ∧ x ≤ 20) (hr : room ls ≤ 1048576) (bs : List Bool) (p : Nat) :
    ∀ f n, n + f = 21 → 1 ≤ n → p + (n - 1) ≤ bs.length → firstP ls (n - 1) + ls.count (n - 1) ≤ num (piece bs p (n - 1)) →
      nextP ls bs f n (num (piece bs p (n - 1))) (p + (n - 1)) = refNext (tabP ls) bs p f n := by
  have h20 : ∀ x ∈ ls, x ≤ 20 := fun x hx => (h1 x hx).2
  intro f
  induction f with
  | zero => intro n _ _ _ _; rfl
  | succ f ih =>
    intro n hn hn1 hp hinv
    rw [nextP, refNext]
    by_cases hsh : bs.length < p + n
    · rw [if_pos (by omega), if_pos hsh]
    · rw [if_neg (by omega), if_neg hsh]
      have hc := num_piece bs p (n - 1) (by omega)
      rw [show n - 1 + 1 = n by omega] at hc
      rw [← hc]
      have hfirst : firstP ls n ≤ num (piece bs p n) := by
        rw [show n = (n - 1) + 1 by omega, firstP, show n - 1 + 1 = n by omega, hc]
        omega
      have hbl := piece_length bs p n (by omega)
      have hblt := num_lt (piece bs p n)
      rw [hbl] at hblt
      generalize hB : piece bs p n = B at hc hfirst hbl hblt ⊢
      have htl := tabP_length ls
      have hcl : ∀ i, i < ls.length → codeP ls i < 2 ^ (ls.getD i 0) := fun i hi => code_lt ls h20 hr i hi
      have hexact : ∀ i, i < ls.length → ((tabP ls).getD i [] = B ↔ ls.getD i 0 = n ∧ codeP ls i = num B) := by
        intro i hi
        rw [tabP_getD ls i hi]
        constructor
        · intro h
          have hl := congrArg List.length h
          rw [low_length, hbl] at hl
          refine ⟨hl, ?_⟩
          have h3 := hcl i hi
          rw [hl] at h h3
          exact (low_eq _ _ _ h3 hbl).1 h
        · rintro ⟨h2, h3⟩
          have h4 := hcl i hi
          rw [h2] at h4 ⊢
          exact (low_eq _ _ _ h4 hbl).2 h3
      by_cases hA : firstP ls n ≤ num B ∧ num B < firstP ls n + ls.count n
      · rw [if_pos hA]
        obtain ⟨i, hi, hl, hcd, hix⟩ := code_has ls n _ hA.1 hA.2
        have his := begTo_is (tabP ls) B i ((hexact i hi).2 ⟨hl, hcd⟩) (tabP ls).length (by rw [htl]; exact hi) (fun k hk hkB => by
          rw [htl] at hk
          obtain ⟨h2, h3⟩ := (hexact k hk).1 hkB
          exact code_one ls k i hk hi (by omega) (by omega))
        rw [his, if_pos (by omega), Int.toNat_natCast]
        have ho := orderTo_get ls n 21 _ i (by omega) hix
        rw [List.getD, ho, Option.getD_some, show p + (n - 1) + 1 = p + n by omega]
      · rw [if_neg hA]
        have hge : firstP ls n + ls.count n ≤ num B := by omega
        have hnot := begTo_not (tabP ls) B (tabP ls).length (fun j hj h => by
          rw [htl] at hj
          obtain ⟨h2, h3⟩ := (hexact j hj).1 h
          have := code_in ls j hj
          rw [h2, h3] at this
          exact hA this)
        rw [hnot, if_neg (show ¬ (0 : Int) ≤ -1 by decide)]
        rcases Bool.eq_false_or_eq_true (beginsP ls (num B) n) with hb | hb
        · rw [if_pos hb]
          obtain ⟨i, hi, hlt, hd⟩ := begins_some ls _ n hge hb
          have hpre : B <+: (tabP ls).getD i [] := by
            rw [tabP_getD ls i hi, prefix_low _ _ _ (by omega) (hcl i hi), hbl]; exact hd
          rw [if_neg (begTo_some (tabP ls) B i hpre _ (by rw [htl]; exact hi))]
          have := ih (n + 1) (by omega) (by omega) (by omega) (by rw [Nat.add_sub_cancel, hB]; exact hge)
          rw [Nat.add_sub_cancel, hB] at this
          rw [show p + (n - 1) + 1 = p + n by omega]
          exact this
        · rw [if_neg (by rw [hb]; decide)]
          have hz := begTo_none (tabP ls) B (tabP ls).length (fun j hj h => by
            rw [htl] at hj
            rw [tabP_getD ls j hj] at h
            have hlen := h.length_le
            rw [low_length, hbl] at hlen
            rw [prefix_low _ _ _ (by omega) (hcl j hj), hbl] at h
            rcases Nat.lt_or_ge n (ls.getD j 0) with hlt | hge2
            · have := some_begins ls h20 (num B) n j hj hlt h
              rw [hb] at this; cases this
            · have he : ls.getD j 0 = n := by omega
              rw [he, Nat.sub_self, Nat.pow_zero, Nat.div_one] at h
              have := code_in ls j hj
              rw [he, h] at this
              exact hA this)
          rw [if_pos hz]
/-- A symbol read from p on. -/
def nextR (ls : List Nat) (bs : List Bool) (p : Nat) : Nat × Nat × Nat := nextP ls bs 20 1 0 p
theorem next_ref (ls : List Nat) (h1 : ∀ x ∈ ls, 1 ≤ x ∧ x ≤ 20) (hr : room ls ≤ 1048576) (bs : List Bool) (p : Nat) (hp : p ≤ bs.length) : refNext (tabP ls) bs p 20 1 = nextR ls bs p := by
  have hz : ls.count 0 = 0 := by
    rw [List.count_eq_zero]
    intro h; have := (h1 0 h).1; omega
  have := next_same ls h1 hr bs p 20 1 rfl (Nat.le_refl _) (by omega) (by rw [show 1 - 1 = 0 from rfl, hz]; simp [firstP])
  rw [← this, show 1 - 1 = 0 from rfl, piece_zero]
  rfl
/-- What a reading tells is beyond p, at most at the end, and a symbol. -/
theorem nextP_to (ls : List Nat) (bs : List Bool) : ∀ f n code p, (nextP ls bs f n code p).2.2 = 0 → p < (nextP ls bs f n code p).2.1 ∧ (nextP ls bs f n code p).2.1 ≤ bs.length := by
  intro f
  induction f with
  | zero => intro n code p h; simp [nextP] at h
  | succ f ih =>
    intro n code p h
    rw [nextP] at h ⊢
    by_cases h1 : bs.length < p + 1
    · rw [if_pos h1] at h; simp at h
    · rw [if_neg h1] at h ⊢
      split
      · simp only; omega
      · rename_i hA
        rw [if_neg hA] at h
        split
        · rename_i hb
          rw [if_pos hb] at h
          have := ih _ _ _ h
          omega
        · rename_i hb
          rw [if_neg hb] at h; simp at h
theorem nextP_err (ls : List Nat) (bs : List Bool) : ∀ f n code p, (nextP ls bs f n code p).2.2 ≠ 0 → nextP ls bs f n code p = (0, 0, (nextP ls bs f n code p).2.2) := by
  intro f
  induction f with
  | zero => intro n code p h; rfl
  | succ f ih =>
    intro n code p h
    rw [nextP] at h ⊢
    split
    · rfl
    · rename_i h1
      rw [if_neg h1] at h
      split
      · rename_i hA
        rw [if_pos hA] at h; simp at h
      · rename_i hA
        rw [if_neg hA] at h
        split
        · rename_i hb
          rw [if_pos hb] at h
          exact ih _ _ _ h
        · rfl
theorem nextP_small (ls : List Nat) (bs : List Bool) : ∀ f n code p, (nextP ls bs f n code p).2.2 ≤ 90 := by
  intro f
  induction f with
  | zero => intro n code p; simp [nextP]
  | succ f ih =>
    intro n code p
    rw [nextP]
    split
    · simp
    · split
      · simp
      · split
        · exact ih _ _ _
        · simp
end K
end Go.Proofs.Ytdaenajhgbagdaa
namespace Go.Proofs.Ytdaenajhgbagdaa
namespace K
set_option linter.unusedVariables false

/-- Codes' answer. -/
def codesR (l : List Int) : List Nat × Nat := if goodL l then (codesP (natsOf l), 0) else ([], 80)
/-- A symbol's code, as bits. -/
def symP (ls : List Nat) (i : Nat) : List Bool := low (codeP ls i) (ls.getD i 0)
/-- Symbols in codes. -/
def encP (ls : List Nat) : List Int → Option (List Bool)
  | [] => some []
  | s :: r => if s < 0 ∨ (ls.length : Int) ≤ s then none else (encP ls r).map (symP ls s.toNat ++ ·)
theorem encP_none (ls : List Nat) (s : Int) (r : List Int) (h : s < 0 ∨ (ls.length : Int) ≤ s) : encP ls (s :: r) = none := by rw [encP, if_pos h]
theorem encP_cons (ls : List Nat) (s : Int) (r : List Int) (h : ¬ (s < 0 ∨ (ls.length : Int) ≤ s)) : encP ls (s :: r) = (encP ls r).map (symP ls s.toNat ++ ·) := by rw [encP, if_neg h]
theorem map_map_app (o : Option (List Bool)) (A x : List Bool) : (o.map (x ++ ·)).map (A ++ ·) = o.map (A ++ x ++ ·) := by
  cases o <;> simp
theorem symP_length (ls : List Nat) (i : Nat) : (symP ls i).length = ls.getD i 0 := by simp [symP, low_length]
/-- Encode's answer. -/
def encR (l list : List Int) : List UInt8 × Int × Nat :=
  if goodL l then match encP (natsOf l) list with | none => ([], 0, 60) | some bs => (pack bs, ((bs.length : Nat) : Int), 0) else ([], 0, 80)
theorem encR_bad (l list : List Int) (h : goodL l = false) : encR l list = ([], 0, 80) := by unfold encR; rw [h]; rfl
theorem encR_none (l list : List Int) (h : goodL l = true) (he : encP (natsOf l) list = none) : encR l list = ([], 0, 60) := by unfold encR; rw [h, he]; rfl
theorem encR_some (l list : List Int) (bs : List Bool) (h : goodL l = true) (he : encP (natsOf l) list = some bs) : encR l list = (pack bs, ((bs.length : Nat) : Int), 0) := by unfold encR; rw [h, he]; rfl

/-! ### Some symbols read -/
/-- As long as fewer than n are read, and the end is not. -/
def allP (ls : List Nat) (bs : List Bool) (n e : Int) : Nat → List Nat → Nat → List Nat × Nat × Nat
  | 0, _, _ => ([], 0, 10)
  | f + 1, out, p =>
    if (out.length : Int) < n then
      if (nextR ls bs p).2.2 ≠ 0 then ([], 0, (nextR ls bs p).2.2)
      else if ((nextR ls bs p).1 : Int) = e then (out ++ [(nextR ls bs p).1], (nextR ls bs p).2.1, 0)
      else allP ls bs n e f (out ++ [(nextR ls bs p).1]) (nextR ls bs p).2.1
    else (out, p, 0)
/-- All's answer. -/
def allR (l : List Int) (bs : List Bool) (at_ n e : Int) : List Nat × Nat × Nat :=
  if goodL l then (if at_ < 0 ∨ (bs.length : Int) < at_ ∨ n < 0 then ([], 0, 2) else allP (natsOf l) bs n e (bs.length + 1) [] at_.toNat) else ([], 0, 80)
/-- Decode's. -/
def decR (l : List Int) (bs : List Bool) (at_ : Int) : Nat × Nat × Nat := if (allR l bs at_ 1 (-1)).2.2 ≠ 0 then (0, 0, (allR l bs at_ 1 (-1)).2.2) else ((allR l bs at_ 1 (-1)).1.getD 0 0, (allR l bs at_ 1 (-1)).2.1, 0)
theorem nextR_to (ls : List Nat) (bs : List Bool) (p : Nat) (h : (nextR ls bs p).2.2 = 0) : p < (nextR ls bs p).2.1 ∧ (nextR ls bs p).2.1 ≤ bs.length := nextP_to ls bs _ _ _ _ h
theorem nextR_err (ls : List Nat) (bs : List Bool) (p : Nat) (h : (nextR ls bs p).2.2 ≠ 0) : nextR ls bs p = (0, 0, (nextR ls bs p).2.2) := nextP_err ls bs _ _ _ _ h
theorem allP_done (ls : List Nat) (bs : List Bool) (n e : Int) (f : Nat) (out : List Nat) (p : Nat) (h : ¬ (out.length : Int) < n) : allP ls bs n e (f + 1) out p = (out, p, 0) := by rw [allP, if_neg h]
theorem allP_err (ls : List Nat) (bs : List Bool) (n e : Int) (f : Nat) (out : List Nat) (p x : Nat) (h : (out.length : Int) < n) (hn : nextR ls bs p = (0, 0, x)) (hx : x ≠ 0) : allP ls bs n e (f + 1) out p = ([], 0, x) := by
  rw [allP, if_pos h, hn, if_pos hx]
theorem allP_end (ls : List Nat) (bs : List Bool) (n e : Int) (f : Nat) (out : List Nat) (p x to : Nat) (h : (out.length : Int) < n) (hn : nextR ls bs p = (x, to, 0)) (hx : (x : Int) = e) : allP ls bs n e (f + 1) out p = (out ++ [x], to, 0) := by
  rw [allP, if_pos h, hn, if_neg (by simp), if_pos hx]
theorem allP_more (ls : List Nat) (bs : List Bool) (n e : Int) (f : Nat) (out : List Nat) (p x to : Nat) (h : (out.length : Int) < n) (hn : nextR ls bs p = (x, to, 0)) (hx : (x : Int) ≠ e) : allP ls bs n e (f + 1) out p = allP ls bs n e f (out ++ [x]) to := by
  rw [allP, if_pos h, hn, if_neg (by simp), if_neg hx]

theorem allR_one (l : List Int) (bs : List Bool) (at_ : Int) (h : (allR l bs at_ 1 (-1)).2.2 = 0) : ∃ x p, allR l bs at_ 1 (-1) = ([x], p, 0) := by
  unfold allR at h ⊢
  split
  · rename_i hg
    rw [if_pos hg] at h
    split
    · rename_i ha
      rw [if_pos ha] at h; cases h
    · rename_i ha
      rw [if_neg ha] at h
      have hlen : at_.toNat ≤ bs.length := by omega
      by_cases hz : (nextR (natsOf l) bs at_.toNat).2.2 = 0
      · have hto := nextR_to (natsOf l) bs at_.toNat hz
        obtain ⟨f, hf⟩ : ∃ f, bs.length = f + 1 := ⟨bs.length - 1, by omega⟩
        rw [allP_more _ _ _ _ _ _ _ (nextR (natsOf l) bs at_.toNat).1 (nextR (natsOf l) bs at_.toNat).2.1 (by simp) (by rw [← hz]) (by omega), hf, List.nil_append, allP_done _ _ _ _ _ _ _ (by simp)]
        exact ⟨_, _, rfl⟩
      · rw [allP_err _ _ _ _ _ _ _ _ (by simp) (nextR_err _ _ _ hz) hz] at h
        exact absurd h hz
  · rename_i hg
    rw [if_neg hg] at h; cases h
theorem allR_err (l : List Int) (bs : List Bool) (at_ : Int) (h : (allR l bs at_ 1 (-1)).2.2 ≠ 0) : decR l bs at_ = (0, 0, (allR l bs at_ 1 (-1)).2.2) := by unfold decR; rw [if_pos h]
theorem decR_one (l : List Int) (bs : List Bool) (at_ : Int) (x p : Nat) (h : allR l bs at_ 1 (-1) = ([x], p, 0)) : decR l bs at_ = (x, p, 0) := by unfold decR; rw [h]; rfl
theorem allP_small (ls : List Nat) (bs : List Bool) (n e : Int) : ∀ f out p, (allP ls bs n e f out p).2.2 ≤ 90 := by
  intro f
  induction f with
  | zero => intro out p; simp [allP]
  | succ f ih =>
    intro out p
    rw [allP]
    split
    · split
      · exact nextP_small ls bs 20 1 0 p
      · split
        · simp
        · exact ih _ _
    · simp
theorem allR_small (l : List Int) (bs : List Bool) (at_ n e : Int) : (allR l bs at_ n e).2.2 ≤ 90 := by
  unfold allR
  split
  · split
    · simp
    · exact allP_small _ _ _ _ _ _ _
  · simp
theorem allR_bad (l : List Int) (bs : List Bool) (at_ n e : Int) : (allR l bs at_ n e).2.2 ≠ 0 → allR l bs at_ n e = ([], 0, (allR l bs at_ n e).2.2) := by
  have key : ∀ f out p, (allP (natsOf l) bs n e f out p).2.2 ≠ 0 → allP (natsOf l) bs n e f out p = ([], 0, (allP (natsOf l) bs n e f out p).2.2) := by
    intro f
    induction f with
    | zero => intro out p _; rfl
    | succ f ih =>
      intro out p h
      rw [allP] at h ⊢
      split
      · rename_i h1
        rw [if_pos h1] at h
        split
        · rfl
        · rename_i h2
          rw [if_neg h2] at h
          split
          · rename_i h3; rw [if_pos h3] at h; exact absurd rfl h
          · rename_i h3; rw [if_neg h3] at h; exact ih _ _ h
      · rename_i h1; rw [if_neg h1] at h; exact absurd rfl h
  intro h
  unfold allR at h ⊢
  split
  · rename_i hg
    rw [if_pos hg] at h
    split
    · rfl
    · rename_i ha
      rw [if_neg ha] at h
      exact key _ _ _ h
  · rfl

/-! ### What was told is read -/
theorem low_bit (v m j : Nat) (h : j < m) : (low v m).getD j false = v.testBit (m - 1 - j) := by
  rw [List.getD, low_succ_get v m j h]; rfl
theorem half_bit (v d : Nat) : 2 * (v / 2 ^ (d + 1)) + (v.testBit d).toNat = v / 2 ^ d := by
  rw [testBit_div, Nat.pow_succ, ← Nat.div_div_eq_div_mul]
  omega
theorem nextP_told (ls : List Nat) (h20 : ∀ x ∈ ls, x ≤ 20) (hr : room ls ≤ 1048576) (bs : List Bool) (p i : Nat) (hi : i < ls.length)
    (hp : p + ls.getD i 0 ≤ bs.length) (hb : piece bs p (ls.getD i 0) = symP ls i) :
    ∀ d n, n + d = ls.getD i 0 → 1 ≤ n → nextP ls bs (21 - n) n (codeP ls i / 2 ^ (ls.getD i 0 - (n - 1))) (p + (n - 1)) = (i, p + ls.getD i 0, 0) := by
  obtain ⟨m, hm⟩ : ∃ m, ls.getD i 0 = m := ⟨_, rfl⟩
  have hx : ls.getD i 0 ≤ 20 := by rw [List.getD, List.getElem?_eq_getElem hi]; exact h20 _ (List.getElem_mem hi)
  have hbit : ∀ j, j < m → bs.getD (p + j) false = (codeP ls i).testBit (m - 1 - j) := by
    intro j hj
    have h1 := congrArg (fun l => l.getD j false) hb
    unfold piece at h1
    rw [hm, List.getD, List.getElem?_take, if_pos hj, List.getElem?_drop] at h1
    unfold symP at h1
    rw [hm, low_bit _ _ _ hj] at h1
    exact h1
  have hci := code_in ls i hi
  rw [hm] at hp hx hci ⊢
  intro d
  induction d with
  | zero =>
    intro n hn hn1
    obtain rfl : n = m := by omega
    rw [show 21 - n = (20 - n) + 1 by omega, nextP, if_neg (by omega), hbit (n - 1) (by omega), show n - (n - 1) = 0 + 1 by omega, show n - 1 - (n - 1) = 0 by omega, half_bit, Nat.pow_zero, Nat.div_one, if_pos hci]
    have ho := orderTo_get ls n 21 (codeP ls i - firstP ls n) i (by omega) ((idxs_get ls n _ i).2 ⟨hi, hm, by unfold codeP; rw [hm]; omega⟩)
    rw [List.getD, ho, Option.getD_some, show p + (n - 1) + 1 = p + n by omega]
  | succ d ih =>
    intro n hn hn1
    have ih := ih (n + 1) (by omega) (by omega)
    rw [Nat.add_sub_cancel] at ih
    have hbn : bs.getD (p + (n - 1)) false = (codeP ls i).testBit (m - n) := by rw [hbit (n - 1) (by omega), show m - 1 - (n - 1) = m - n by omega]
    have habove := head_above ls n i hi (by omega)
    rw [hm] at habove
    have hbg := some_begins ls h20 _ n i hi (by omega) rfl
    rw [hm] at hbg
    rw [show 21 - n = (20 - n) + 1 by omega, nextP, if_neg (by omega), hbn, show m - (n - 1) = (m - n) + 1 by omega, half_bit, if_neg (by omega), if_pos hbg]
    rw [show 21 - (n + 1) = 20 - n by omega] at ih
    rw [show p + (n - 1) + 1 = p + n by omega]
    exact ih
theorem next_told (ls : List Nat) (h1 : ∀ x ∈ ls, 1 ≤ x ∧ x ≤ 20) (hr : room ls ≤ 1048576) (bs : List Bool) (p i : Nat) (hi : i < ls.length)
    (hp : p + ls.getD i 0 ≤ bs.length) (hb : piece bs p (ls.getD i 0) = symP ls i) : nextR ls bs p = (i, p + ls.getD i 0, 0) := by
  have hx : 1 ≤ ls.getD i 0 := by rw [List.getD, List.getElem?_eq_getElem hi]; exact (h1 _ (List.getElem_mem hi)).1
  have hlt := code_lt ls (fun x hx => (h1 x hx).2) hr i hi
  have := nextP_told ls (fun x hx => (h1 x hx).2) hr bs p i hi hp hb (ls.getD i 0 - 1) 1 (by omega) (Nat.le_refl _)
  rw [show 21 - 1 = 20 from rfl, show 1 - 1 = 0 from rfl, Nat.sub_zero, Nat.div_eq_of_lt hlt, Nat.add_zero] at this
  exact this
/-- All symbols of a list that was told are read again. -/
theorem all_told (ls : List Nat) (h1 : ∀ x ∈ ls, 1 ≤ x ∧ x ≤ 20) (hr : room ls ≤ 1048576) (bs : List Bool) :
    ∀ (list : List Int) (B : List Bool) (out : List Nat) (p f : Nat), encP ls list = some B → p + B.length ≤ bs.length → piece bs p B.length = B → list.length < f →
      allP ls bs ((out.length + list.length : Nat) : Int) (-1) f out p = (out ++ list.map Int.toNat, p + B.length, 0) := by
  intro list
  induction list with
  | nil =>
    intro B out p f hB hp hpc hf
    obtain ⟨f, rfl⟩ : ∃ g, f = g + 1 := ⟨f - 1, by simp at hf; omega⟩
    have : B = [] := by simpa [encP] using hB.symm
    subst this
    rw [allP_done _ _ _ _ _ _ _ (by simp)]
    simp
  | cons s r ih =>
    intro B out p f hB hp hpc hf
    obtain ⟨f, rfl⟩ : ∃ g, f = g + 1 := ⟨f - 1, by simp at hf; omega⟩
    by_cases hs : s < 0 ∨ (ls.length : Int) ≤ s
    · rw [encP_none _ _ _ hs] at hB; cases hB
    · rw [encP_cons _ _ _ hs] at hB
      cases he : encP ls r with
      | none => rw [he] at hB; cases hB
      | some R =>
        rw [he] at hB
        have hB : symP ls s.toNat ++ R = B := by simpa using hB
        subst hB
        have hi : s.toNat < ls.length := by omega
        have hl := symP_length ls s.toNat
        rw [List.length_append, hl] at hp hpc
        have hpc1 : piece bs p (ls.getD s.toNat 0) = symP ls s.toNat := by
          have := congrArg (fun l => l.take (ls.getD s.toNat 0)) hpc
          unfold piece at this ⊢
          rw [List.take_take, Nat.min_eq_left (by omega)] at this
          rw [this, ← hl, List.take_left]
        have hpc2 : piece bs (p + ls.getD s.toNat 0) R.length = R := by
          have := congrArg (fun l => l.drop (ls.getD s.toNat 0)) hpc
          unfold piece at this ⊢
          rw [List.drop_take, List.drop_drop, Nat.add_sub_cancel_left] at this
          rw [this, ← hl, List.drop_left]
        have hnx := next_told ls h1 hr bs p s.toNat hi (by omega) hpc1
        rw [allP_more _ _ _ _ _ _ _ _ _ (by simp; omega) hnx (by omega)]
        have := ih R (out ++ [s.toNat]) (p + ls.getD s.toNat 0) f he (by omega) hpc2 (by simp at hf; omega)
        rw [show ((out ++ [s.toNat]).length + r.length : Nat) = (out.length + (s :: r).length : Nat) by simp; omega] at this
        rw [this, List.length_append, hl]
        simp [Nat.add_assoc]
/-- Symbols that were told in codes, behind whatever bytes, are read again. -/
theorem allR_back (l list : List Int) (B : List Bool) (A : List UInt8) (h : goodL l = true) (he : encP (natsOf l) list = some B) :
    allR l (bitsOf (A ++ pack B)) ((8 * A.length : Nat) : Int) (list.length : Nat) (-1) = (list.map Int.toNat, 8 * A.length + B.length, 0) := by
  have hbl : (bitsOf (A ++ pack B)).length = 8 * A.length + 8 * ((B.length + 7) / 8) := by rw [bitsOf_length, List.length_append, pack_length]; omega
  unfold allR
  rw [h, if_pos rfl, if_neg (by rw [hbl]; omega), Int.toNat_natCast]
  -- each symbol takes a bit at least
  have hlist : ∀ (list : List Int) (B : List Bool), encP (natsOf l) list = some B → list.length ≤ B.length := by
    intro list
    induction list with
    | nil => intro B _; simp
    | cons s r ih =>
      intro B hB
      by_cases hs : s < 0 ∨ ((natsOf l).length : Int) ≤ s
      · rw [encP_none _ _ _ hs] at hB; cases hB
      · rw [encP_cons _ _ _ hs] at hB
        cases he : encP (natsOf l) r with
        | none => rw [he] at hB; cases hB
        | some R =>
          rw [he] at hB
          have hB : symP (natsOf l) s.toNat ++ R = B := by simpa using hB
          subst hB
          have hi : s.toNat < (natsOf l).length := by omega
          have := ih R he
          have hx : 1 ≤ (natsOf l).getD s.toNat 0 := by rw [List.getD, List.getElem?_eq_getElem hi]; exact (goodL_in h _ (List.getElem_mem hi)).1
          rw [List.length_append, symP_length, List.length_cons]
          omega
  have hll := hlist list B he
  have hpc : piece (bitsOf (A ++ pack B)) (8 * A.length) B.length = B := by
    have := piece_behind A B 0 B.length (by omega)
    rw [Nat.add_zero] at this
    rw [this]
    simp [piece]
  have := all_told (natsOf l) (goodL_in h) (goodL_room h) (bitsOf (A ++ pack B)) list B [] (8 * A.length) ((bitsOf (A ++ pack B)).length + 1) he (by rw [hbl]; omega) hpc (by rw [hbl]; omega)
  simpa using this
end K
end Go.Proofs.Ytdaenajhgbagdaa
namespace Go.Proofs.Ytdaenajhgbagdaa
namespace K
set_option linter.unusedVariables false
set_option linter.unusedSimpArgs false

theorem sum_mul_r (f : Nat → Nat) (c : Nat) (l : List Nat) : (l.map fun x => f x * c).sum = (l.map f).sum * c := by
  induction l with
  | nil => simp
  | cons x l ih => rw [List.map_cons, List.sum_cons, List.map_cons, List.sum_cons, ih, Nat.add_mul]
theorem full_upto (ls : List Nat) (m : Nat) (hm : m ≤ 20) (h : ∀ x ∈ ls, x ≤ m) (hr : room ls = 1048576) : firstP ls m + ls.count m = 2 ^ m := by
  rw [upto]
  have e : (ls.map fun x => if x ≤ m then 2 ^ (m - x) else 0) = ls.map fun x => 2 ^ (m - x) := List.map_congr_left fun x hx => if_pos (h x hx)
  rw [e]
  have e2 : ((ls.map fun x => 2 ^ (m - x)).sum) * 2 ^ (20 - m) = room ls := by
    unfold room
    rw [← sum_mul_r]
    congr 1
    apply List.map_congr_left
    intro x hx
    have := h x hx
    rw [← Nat.pow_add]
    congr 1
    omega
  rw [hr] at e2
  have e3 : 2 ^ m * 2 ^ (20 - m) = 1048576 := by rw [← Nat.pow_add, show m + (20 - m) = 20 by omega]
  have hp : 0 < 2 ^ (20 - m) := Nat.two_pow_pos _
  exact Nat.eq_of_mul_eq_mul_right hp (e2.trans e3.symm)
/-- What is read. -/
def ReadOk (ls : List Nat) (bs : List Bool) (M n p : Nat) (r : Nat × Nat × Nat) : Prop :=
  (r = (0, 0, 10) ∧ bs.length + n ≤ p + M) ∨ (r.2.2 = 0 ∧ r.1 < ls.length ∧ r.2.1 + n = p + 1 + ls.getD r.1 0)
theorem nextP_full (ls : List Nat) (bs : List Bool) (M : Nat) (hM : M ≤ 20) (h1 : ∀ x ∈ ls, 1 ≤ x ∧ x ≤ M) (hr : room ls = 1048576) (hc : 0 < ls.count M) :
    ∀ f n code p, f + n = 21 → 1 ≤ n → n ≤ M → code < 2 ^ (n - 1) → firstP ls n ≤ 2 * code → ReadOk ls bs M n p (nextP ls bs f n code p)
  | 0, n, code, p, hf, h0, hn, hcd, hfp => by omega
  | f + 1, n, code, p, hf, h0, hn, hcd, hfp => by
    have hb : (bs.getD p false).toNat ≤ 1 := Bool.toNat_le _
    obtain ⟨c, hcc⟩ : ∃ c, 2 * code + (bs.getD p false).toNat = c := ⟨_, rfl⟩
    have hc2 : c < 2 ^ n := by
      have : 2 ^ n = 2 * 2 ^ (n - 1) := by rw [← Nat.pow_succ', show (n - 1).succ = n by omega]
      omega
    have hful := full_upto ls M hM (fun x hx => (h1 x hx).2) hr
    rw [nextP, hcc]
    by_cases hs : bs.length < p + 1
    · rw [if_pos hs]
      exact .inl ⟨rfl, by omega⟩
    · rw [if_neg hs]
      by_cases hin : firstP ls n ≤ c ∧ c < firstP ls n + ls.count n
      · rw [if_pos hin]
        obtain ⟨i, hi, hl, -, hidx⟩ := code_has ls n c hin.1 hin.2
        have ho := orderTo_get ls n 21 _ i (by omega) hidx
        have hg : (orderTo ls 21).getD ((orderTo ls n).length + (c - firstP ls n)) 0 = i := by rw [List.getD, ho]; rfl
        rw [hg]
        exact .inr ⟨rfl, hi, by simp only; rw [hl]⟩
      · rw [if_neg hin]
        have hge : firstP ls n + ls.count n ≤ c := by omega
        have hnM : n < M := by
          rcases Nat.lt_or_ge n M with h | h
          · exact h
          · have : n = M := by omega
            subst this
            omega
        have hbg : beginsP ls c n = true := by
          rw [beginsP_iff]
          refine ⟨M, hM, hnM, hc, ?_⟩
          rw [hful]
          have : 2 ^ M = 2 ^ n * 2 ^ (M - n) := by rw [← Nat.pow_add, show n + (M - n) = M by omega]
          rw [this]
          exact Nat.mul_lt_mul_of_pos_right hc2 (Nat.two_pow_pos _)
        rw [if_pos hbg]
        have ih := nextP_full ls bs M hM h1 hr hc f (n + 1) c (p + 1) (by omega) (by omega) (by omega) (by simpa using hc2) (by rw [firstP]; omega)
        rcases ih with ⟨h2, h3⟩ | ⟨h2, h3, h4⟩
        · exact .inl ⟨h2, by omega⟩
        · exact .inr ⟨h2, h3, by omega⟩
theorem max_len (ls : List Nat) (h : ls ≠ []) : ∃ M, M ∈ ls ∧ ∀ x ∈ ls, x ≤ M := by
  induction ls with
  | nil => exact absurd rfl h
  | cons y r ih =>
    cases r with
    | nil => exact ⟨y, by simp, fun x hx => by simp at hx; omega⟩
    | cons z t =>
      obtain ⟨M, h1, h2⟩ := ih (by simp)
      rcases Nat.le_total y M with h' | h'
      · exact ⟨M, List.mem_cons_of_mem _ h1, fun x hx => by rcases List.mem_cons.1 hx with rfl | hx; exact h'; exact h2 x hx⟩
      · exact ⟨y, by simp, fun x hx => by rcases List.mem_cons.1 hx with rfl | hx; exact Nat.le_refl _; exact Nat.le_trans (h2 x hx) h'⟩
/-- Decode, of full lengths: a symbol, or there are too few bits. -/
theorem decR_full {l : List Int} {most : Nat} (hg : goodL l = true) (hr : room (natsOf l) = 1048576) (hm : ∀ x ∈ natsOf l, x ≤ most) (bs : List Bool) (at_ : Nat) (ha : at_ ≤ bs.length) :
    (decR l bs at_ = (0, 0, 10) ∧ bs.length < at_ + most) ∨ ((decR l bs at_).2.2 = 0 ∧ (decR l bs at_).1 < l.length ∧ (decR l bs at_).2.1 = at_ + (natsOf l).getD (decR l bs at_).1 0) := by
  have hne : natsOf l ≠ [] := by
    intro h
    rw [h] at hr
    simp [room] at hr
  obtain ⟨M, hMm, hMx⟩ := max_len (natsOf l) hne
  have hin := goodL_in hg
  have hM20 := (hin M hMm).2
  have hM1 := (hin M hMm).1
  have hMo := hm M hMm
  have hN := nextP_full (natsOf l) bs M hM20 (fun x hx => ⟨(hin x hx).1, hMx x hx⟩) hr (List.count_pos_iff.2 hMm) 20 1 0 at_ (by omega) (by omega) hM1 (by simp) (by
    have hz : (natsOf l).count 0 = 0 := by
      rw [List.count_eq_zero]
      intro h; have := (hin 0 h).1; omega
    simp [firstP, hz])
  have hN : ReadOk (natsOf l) bs M 1 at_ (nextR (natsOf l) bs at_) := hN
  have hall : allR l bs (at_ : Int) 1 (-1) = allP (natsOf l) bs 1 (-1) (bs.length + 1) [] at_ := by
    unfold allR
    rw [hg, if_pos rfl, if_neg (by omega), Int.toNat_natCast]
  rcases hN with ⟨h1, h2⟩ | ⟨h1, h2, h3⟩
  · left
    have e := allP_err (natsOf l) bs 1 (-1) bs.length [] at_ 10 (by simp) h1 (by decide)
    unfold decR
    rw [hall, e]
    exact ⟨rfl, by omega⟩
  · right
    obtain ⟨x, tt, hx⟩ : ∃ x tt, nextR (natsOf l) bs at_ = (x, tt, 0) := ⟨_, _, by rw [← h1]⟩
    rw [hx] at h2 h3
    simp only at h2 h3
    have hb0 : 0 < bs.length := by
      have := nextR_to (natsOf l) bs at_ (by rw [hx])
      rw [hx] at this
      simp only at this
      omega
    obtain ⟨f, hf⟩ : ∃ f, bs.length = f + 1 := ⟨bs.length - 1, by omega⟩
    have e := allP_more (natsOf l) bs 1 (-1) bs.length [] at_ x tt (by simp) hx (by omega)
    have e2 := allP_done (natsOf l) bs 1 (-1) f [x] tt (by simp)
    rw [hf] at e
    unfold decR
    rw [hall, hf, e]
    simp only [List.nil_append]
    rw [e2]
    refine ⟨rfl, ?_, ?_⟩
    · rw [natsOf_length] at h2
      simpa using h2
    · show tt = at_ + (natsOf l).getD x 0
      omega
end K
end Go.Proofs.Ytdaenajhgbagdaa
