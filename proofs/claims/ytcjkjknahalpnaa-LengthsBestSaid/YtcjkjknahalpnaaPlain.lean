/-
  Bits and bytes in plain words: no program in sight. Bits are Booleans, bytes are UInt8.
-/
import Derived.Laws.AppendOwn
namespace Go.Proofs.Ytcjkjknahalpnaa
namespace K

/-- Bit number j of a row, 0 behind its end. -/
def bt (bs : List Bool) (j : Nat) : Nat := (bs.getD j false).toNat
theorem bt_le (bs : List Bool) (j : Nat) : bt bs j ≤ 1 := by unfold bt; exact Bool.toNat_le _
theorem bt_snoc (bs : List Bool) (c : Bool) (j : Nat) : bt (bs ++ [c]) j = if j = bs.length then c.toNat else bt bs j := by
  unfold bt
  rcases Nat.lt_trichotomy j bs.length with h | h | h
  · rw [if_neg (by omega)]; simp [List.getD, List.getElem?_append_left h]
  · subst h; simp [List.getD]
  · rw [if_neg (by omega)]
    have h1 : (bs ++ [c])[j]? = none := List.getElem?_eq_none (by simp; omega)
    have h2 : bs[j]? = none := List.getElem?_eq_none (by omega)
    simp [List.getD, h1, h2]

/-- Byte number i of a row of bits. -/
def byteN (bs : List Bool) (i : Nat) : Nat :=
  128 * bt bs (8 * i) + 64 * bt bs (8 * i + 1) + 32 * bt bs (8 * i + 2) + 16 * bt bs (8 * i + 3) + 8 * bt bs (8 * i + 4) + 4 * bt bs (8 * i + 5) + 2 * bt bs (8 * i + 6) + bt bs (8 * i + 7)
theorem byteN_lt (bs : List Bool) (i : Nat) : byteN bs i < 256 := by
  unfold byteN
  have := bt_le bs (8 * i); have := bt_le bs (8 * i + 1); have := bt_le bs (8 * i + 2); have := bt_le bs (8 * i + 3)
  have := bt_le bs (8 * i + 4); have := bt_le bs (8 * i + 5); have := bt_le bs (8 * i + 6); have := bt_le bs (8 * i + 7)
  omega

/-- Bits as bytes, the last one filled up with 0 bits. -/
def pack (bs : List Bool) : List UInt8 := (List.range ((bs.length + 7) / 8)).map fun i => UInt8.ofNat (byteN bs i)
theorem pack_length (bs : List Bool) : (pack bs).length = (bs.length + 7) / 8 := by simp [pack]
theorem pack_getElem (bs : List Bool) (i : Nat) (h : i < (bs.length + 7) / 8) : (pack bs)[i]? = some (UInt8.ofNat (byteN bs i)) := by
  simp [pack, List.getElem?_range h]
theorem pack_nil : pack [] = [] := rfl

theorem byteN_false (bs : List Bool) (i : Nat) : byteN (bs ++ [false]) i = byteN bs i := by
  have h : ∀ j, bt (bs ++ [false]) j = bt bs j := fun j => by
    rw [bt_snoc]; split
    · rename_i h; subst h; simp [bt, List.getD]
    · rfl
  simp only [byteN, h]
theorem byteN_past (bs : List Bool) (i : Nat) (h : bs.length ≤ 8 * i) : byteN bs i = 0 := by
  have h : ∀ j, 8 * i ≤ j → bt bs j = 0 := fun j hj => by
    have : bs[j]? = none := List.getElem?_eq_none (by omega)
    simp [bt, List.getD, this]
  simp only [byteN]
  rw [h _ (by omega), h _ (by omega), h _ (by omega), h _ (by omega), h _ (by omega), h _ (by omega), h _ (by omega), h _ (by omega)]

theorem pack_false (bs : List Bool) : pack (bs ++ [false]) = if bs.length % 8 = 0 then pack bs ++ [0] else pack bs := by
  have hl : (bs ++ [false]).length = bs.length + 1 := by simp
  split
  · rename_i h
    have e : (bs.length + 1 + 7) / 8 = (bs.length + 7) / 8 + 1 := by omega
    unfold pack
    rw [hl, e, List.range_succ, List.map_append]
    congr 1
    · exact List.map_congr_left fun i _ => by rw [byteN_false]
    · simp only [List.map_cons, List.map_nil, byteN_false]
      rw [byteN_past _ _ (by omega)]
      rfl
  · rename_i h
    have e : (bs.length + 1 + 7) / 8 = (bs.length + 7) / 8 := by omega
    unfold pack
    rw [hl, e]
    exact List.map_congr_left fun i _ => by rw [byteN_false]

theorem or_pow (x r : Nat) (hr : r < 8) (h : x % 2 ^ (8 - r) = 0) : x ||| (128 / 2 ^ r) = x + 2 ^ (7 - r) := by
  have e1 : 128 / 2 ^ r = 2 ^ (7 - r) := by
    match r, hr with
    | 0, _ => rfl | 1, _ => rfl | 2, _ => rfl | 3, _ => rfl | 4, _ => rfl | 5, _ => rfl | 6, _ => rfl | 7, _ => rfl
  rw [e1]
  have e2 : x = 2 ^ (8 - r) * (x / 2 ^ (8 - r)) := by
    have := Nat.div_add_mod x (2 ^ (8 - r)); omega
  rw [e2]
  exact (Nat.two_pow_add_eq_or_of_lt (Nat.pow_lt_pow_right (by decide) (by omega)) _).symm

theorem byteN_head (bs : List Bool) (i r : Nat) (hr : bs.length = 8 * i + r) (h8 : r < 8) : byteN bs i % 2 ^ (8 - r) = 0 := by
  have h : ∀ j, 8 * i + r ≤ j → bt bs j = 0 := fun j hj => by
    have : bs[j]? = none := List.getElem?_eq_none (by omega)
    simp [bt, List.getD, this]
  unfold byteN
  match r, h8 with
  | 0, _ => rw [h _ (by omega), h _ (by omega), h _ (by omega), h _ (by omega), h _ (by omega), h _ (by omega), h _ (by omega), h _ (by omega)]
  | 1, _ => rw [h (8 * i + 1) (by omega), h (8 * i + 2) (by omega), h (8 * i + 3) (by omega), h (8 * i + 4) (by omega), h (8 * i + 5) (by omega), h (8 * i + 6) (by omega), h (8 * i + 7) (by omega)]; omega
  | 2, _ => rw [h (8 * i + 2) (by omega), h (8 * i + 3) (by omega), h (8 * i + 4) (by omega), h (8 * i + 5) (by omega), h (8 * i + 6) (by omega), h (8 * i + 7) (by omega)]; omega
  | 3, _ => rw [h (8 * i + 3) (by omega), h (8 * i + 4) (by omega), h (8 * i + 5) (by omega), h (8 * i + 6) (by omega), h (8 * i + 7) (by omega)]; omega
  | 4, _ => rw [h (8 * i + 4) (by omega), h (8 * i + 5) (by omega), h (8 * i + 6) (by omega), h (8 * i + 7) (by omega)]; omega
  | 5, _ => rw [h (8 * i + 5) (by omega), h (8 * i + 6) (by omega), h (8 * i + 7) (by omega)]; omega
  | 6, _ => rw [h (8 * i + 6) (by omega), h (8 * i + 7) (by omega)]; omega
  | 7, _ => rw [h (8 * i + 7) (by omega)]; omega

theorem byteN_true (bs : List Bool) (i r : Nat) (hr : bs.length = 8 * i + r) (h8 : r < 8) : byteN (bs ++ [true]) i = byteN bs i + 2 ^ (7 - r) := by
  have h : ∀ j, bt (bs ++ [true]) j = if j = bs.length then 1 else bt bs j := fun j => by rw [bt_snoc]; rfl
  have h0 : bt bs bs.length = 0 := by simp [bt, List.getD]
  rw [hr] at h h0
  unfold byteN
  simp only [h]
  match r, h8 with
  | 0, _ => simp at h0 ⊢; omega
  | 1, _ => simp [h0]; omega
  | 2, _ => simp [h0]; omega
  | 3, _ => simp [h0]; omega
  | 4, _ => simp [h0]; omega
  | 5, _ => simp [h0]; omega
  | 6, _ => simp [h0]; omega
  | 7, _ => simp [h0]

theorem byteN_other (bs : List Bool) (c : Bool) (i : Nat) (hi : i ≠ bs.length / 8) : byteN (bs ++ [c]) i = byteN bs i := by
  have h : ∀ j, j ≠ bs.length → bt (bs ++ [c]) j = bt bs j := fun j hj => by rw [bt_snoc, if_neg hj]
  unfold byteN
  rw [h _ (by omega), h _ (by omega), h _ (by omega), h _ (by omega), h _ (by omega), h _ (by omega), h _ (by omega), h _ (by omega)]

/-- A 1 bit more: set in the byte that the 0 bit stood in. -/
theorem pack_true (bs : List Bool) :
    pack (bs ++ [true]) = (pack (bs ++ [false])).set (bs.length / 8) (UInt8.ofNat (byteN bs (bs.length / 8) ||| (128 / 2 ^ (bs.length % 8)))) := by
  have hl : ∀ c, (bs ++ [c]).length = bs.length + 1 := by simp
  rw [or_pow _ _ (Nat.mod_lt _ (by decide)) (byteN_head bs _ _ (by omega) (Nat.mod_lt _ (by decide)))]
  apply List.ext_getElem?
  intro i
  rw [List.getElem?_set]
  by_cases hi : i < (bs.length + 1 + 7) / 8
  · rw [pack_getElem _ _ (by rw [hl]; exact hi), pack_getElem _ _ (by rw [hl]; exact hi), pack_length, hl]
    by_cases he : bs.length / 8 = i
    · rw [if_pos he, if_pos (by omega)]
      subst he
      rw [byteN_true bs _ (bs.length % 8) (by omega) (Nat.mod_lt _ (by decide))]
    · rw [if_neg he, byteN_other _ _ _ (fun h => he h.symm), byteN_other _ _ _ (fun h => he h.symm)]
  · have h1 : (pack (bs ++ [true]))[i]? = none := List.getElem?_eq_none (by rw [pack_length, hl]; omega)
    have h2 : (pack (bs ++ [false]))[i]? = none := List.getElem?_eq_none (by rw [pack_length, hl]; omega)
    rw [h1, h2, if_neg (by omega)]

/-- The n lowest bits of v, the highest first. -/
def low (v n : Nat) : List Bool := (List.range n).map fun k => v.testBit (n - 1 - k)
theorem low_length (v n : Nat) : (low v n).length = n := by simp [low]
theorem low_take (v n k : Nat) (h : k < n) : (low v n).take (k + 1) = (low v n).take k ++ [v.testBit (n - 1 - k)] := by
  have h' : k < (low v n).length := by rw [low_length]; exact h
  rw [List.take_succ_eq_append_getElem h']
  simp [low]
theorem low_succ_get (v n k : Nat) (h : k < n) : (low v n)[k]? = some (v.testBit (n - 1 - k)) := by simp [low, List.getElem?_range h]

/-- A number of bits, the first one the highest. -/
def num (l : List Bool) : Nat := l.foldl (fun v b => 2 * v + b.toNat) 0
theorem num_snoc (l : List Bool) (b : Bool) : num (l ++ [b]) = 2 * num l + b.toNat := by simp [num, List.foldl_append]
theorem num_lt (l : List Bool) : num l < 2 ^ l.length := by
  suffices h : ∀ n (l : List Bool), l.length = n → num l < 2 ^ n from h _ l rfl
  intro n
  induction n with
  | zero => intro l hl; rw [List.eq_nil_of_length_eq_zero hl]; simp [num]
  | succ n ih =>
    intro l hl
    have hne : l ≠ [] := by intro h; simp [h] at hl
    have e := List.dropLast_concat_getLast hne
    rw [← e, num_snoc]
    have := ih l.dropLast (by simp [hl])
    have := Bool.toNat_le (l.getLast hne)
    rw [Nat.pow_succ]
    omega

/-- Bit number i of a text. -/
def tbit (s : List UInt8) (i : Nat) : Bool := (s.getD (i / 8) 0).toNat.testBit (7 - i % 8)
/-- All bits of a text. -/
def bitsOf (s : List UInt8) : List Bool := (List.range (8 * s.length)).map (tbit s)
theorem bitsOf_length (s : List UInt8) : (bitsOf s).length = 8 * s.length := by simp [bitsOf]
theorem bitsOf_get (s : List UInt8) (i : Nat) (h : i < 8 * s.length) : (bitsOf s)[i]? = some (tbit s i) := by simp [bitsOf, List.getElem?_range h]
theorem bitsOf_take (s : List UInt8) (k : Nat) (h : k < 8 * s.length) : (bitsOf s).take (k + 1) = (bitsOf s).take k ++ [tbit s k] := by
  have h1 : k < (bitsOf s).length := by rw [bitsOf_length]; exact h
  rw [List.take_succ_eq_append_getElem h1]
  congr 2
  have := bitsOf_get s k h
  rw [List.getElem?_eq_getElem h1] at this
  exact Option.some.inj this
/-- n bits from a place on. -/
def piece (l : List Bool) (at_ n : Nat) : List Bool := (l.drop at_).take n
theorem piece_length (l : List Bool) (at_ n : Nat) (h : at_ + n ≤ l.length) : (piece l at_ n).length = n := by simp [piece]; omega
theorem piece_zero (l : List Bool) (at_ : Nat) : piece l at_ 0 = [] := by simp [piece]
theorem piece_succ (s : List UInt8) (at_ k : Nat) (h : at_ + k < 8 * s.length) : piece (bitsOf s) at_ (k + 1) = piece (bitsOf s) at_ k ++ [tbit s (at_ + k)] := by
  have h1 : k < ((bitsOf s).drop at_).length := by rw [List.length_drop, bitsOf_length]; omega
  unfold piece
  rw [List.take_succ_eq_append_getElem h1]
  congr 2
  have := bitsOf_get s (at_ + k) h
  have h2 : at_ + k < (bitsOf s).length := by rw [bitsOf_length]; exact h
  rw [List.getElem?_eq_getElem h2] at this
  simpa using this
theorem testBit_div (v i : Nat) : ((v.testBit i).toNat : Nat) = v / 2 ^ i % 2 := by
  rw [Nat.testBit_eq_decide_div_mod_eq]
  have := Nat.mod_lt (v / 2 ^ i) (show 0 < 2 by decide)
  rcases (show v / 2 ^ i % 2 = 0 ∨ v / 2 ^ i % 2 = 1 by omega) with h | h <;> rw [h] <;> rfl
theorem shl_or (v : Nat) (b : Bool) : (v * 2) ||| b.toNat = 2 * v + b.toNat := by
  have := Nat.two_pow_add_eq_or_of_lt (i := 1) (b := b.toNat) (by have := Bool.toNat_le b; omega) v
  rw [show v * 2 = 2 ^ 1 * v by omega, ← this]

/-- The first k bits of byte number i, as a number. -/
def acc (bs : List Bool) (i : Nat) : Nat → Nat
  | 0 => 0
  | k + 1 => acc bs i k * 2 + bt bs (8 * i + k)
theorem acc_lt (bs : List Bool) (i k : Nat) : acc bs i k < 2 ^ k := by
  induction k with
  | zero => simp [acc]
  | succ k ih => have := bt_le bs (8 * i + k); rw [acc, Nat.pow_succ]; omega
theorem acc_eight (bs : List Bool) (i : Nat) : acc bs i 8 = byteN bs i := by
  simp only [acc, byteN, Nat.add_zero]; omega
theorem pack_take (bs : List Bool) (m : Nat) (h : 8 * m < bs.length) : (pack bs).take (m + 1) = (pack bs).take m ++ [UInt8.ofNat (byteN bs m)] := by
  have hm : m < (pack bs).length := by rw [pack_length]; omega
  rw [List.take_succ_eq_append_getElem hm]
  congr 2
  have := pack_getElem bs m (by omega)
  rw [List.getElem?_eq_getElem hm] at this
  exact Option.some.inj this

theorem num_take (bs : List Bool) (k : Nat) (h : k < bs.length) : num (bs.take (k + 1)) = 2 * num (bs.take k) + bt bs k := by
  rw [List.take_succ_eq_append_getElem h, num_snoc]
  simp [bt, List.getD, List.getElem?_eq_getElem h]

/-- How many 1 bits stand ahead of the next 0 bit, and the error: n are passed already. -/
def unary (most : Int) : Nat → List Bool → Nat × Nat
  | _, [] => (0, 10)
  | n, false :: _ => (n, 0)
  | n, true :: t => if (n : Int) = most then (0, 3) else unary most (n + 1) t
theorem unary_zero (most : Int) (n i : Nat) (s : List UInt8) (h : i < 8 * s.length) (hb : tbit s i = false) : unary most n ((bitsOf s).drop i) = (n, 0) := by
  have h2 : i < (bitsOf s).length := by rw [bitsOf_length]; exact h
  have := bitsOf_get s i h
  rw [List.getElem?_eq_getElem h2] at this
  rw [List.drop_eq_getElem_cons h2, Option.some.inj this, hb]
  rfl
theorem unary_one (most : Int) (n i : Nat) (s : List UInt8) (h : i < 8 * s.length) (hb : tbit s i = true) :
    unary most n ((bitsOf s).drop i) = if (n : Int) = most then (0, 3) else unary most (n + 1) ((bitsOf s).drop (i + 1)) := by
  have h2 : i < (bitsOf s).length := by rw [bitsOf_length]; exact h
  have := bitsOf_get s i h
  rw [List.getElem?_eq_getElem h2] at this
  rw [List.drop_eq_getElem_cons h2, Option.some.inj this, hb]
  rfl
theorem unary_end (most : Int) (n i : Nat) (s : List UInt8) (h : 8 * s.length ≤ i) : unary most n ((bitsOf s).drop i) = (0, 10) := by
  rw [List.drop_eq_nil_of_le (by rw [bitsOf_length]; exact h)]; rfl
end K
end Go.Proofs.Ytcjkjknahalpnaa
