/-
  A step up and a step down more, behind the first five bits.
-/
import Derived.Test.YtickefjlkpdifaaPlainK
namespace Go.Proofs.Ytickefjlkpdifaa
namespace K
/-- The bits with the two steps. -/
def moreBits (bs : List Bool) : List Bool := bs.take 5 ++ ([true, false, true, true] ++ bs.drop 5)
theorem moreBits_len (bs : List Bool) (h : 5 ≤ bs.length) : (moreBits bs).length = bs.length + 4 := by
  unfold moreBits
  simp only [List.length_append, List.length_take, List.length_drop, List.length_cons, List.length_nil]
  omega
theorem more_back (xs : List Int) (hok : lensOk xs = true) (x0 : Int) (h0 : xs[0]? = some x0) (h20 : x0 < 20) :
    lensR (bitsOf (pack (moreBits (showBits xs)))) 0 (xs.length : Nat) = (xs, (showBits xs).length + 4, 0) := by
  obtain ⟨⟨h1, h2⟩, h3⟩ := (lensOk_iff xs).1 hok
  obtain ⟨pad, hp⟩ := bitsOf_pack (moreBits (showBits xs))
  have hx := h3 _ (List.mem_of_getElem? h0)
  have hhd : xs.headD 0 = x0 := by cases xs with
    | nil => simp at h0
    | cons y ys => simpa using h0
  have e : showBits xs = low x0.toNat 5 ++ showFrom x0 xs := by unfold showBits; rw [hhd]
  have hl : (low x0.toNat 5).length = 5 := by simp [low]
  have e5 : moreBits (showBits xs) = low x0.toNat 5 ++ ([true, false, true, true] ++ showFrom x0 xs) := by
    unfold moreBits
    have t1 : (showBits xs).take 5 = low x0.toNat 5 := by rw [e, List.take_append_of_le_length (by omega), List.take_of_length_le (by omega)]
    have t2 : (showBits xs).drop 5 = showFrom x0 xs := by
      have := List.drop_left (l₁ := low x0.toNat 5) (l₂ := showFrom x0 xs)
      rw [hl] at this
      rw [e]; exact this
    rw [t1, t2]
  have hlen : (showBits xs).length = 5 + (showFrom x0 xs).length := by rw [e, List.length_append, hl]
  rw [hp, e5, hlen, List.append_assoc, List.append_assoc]
  have := lensR_tail [] ([true, false, true, true] ++ (showFrom x0 xs ++ pad)) x0.toNat xs.length (by omega) ⟨h1, h2⟩
  simp only [List.nil_append, List.length_nil] at this
  rw [show ((0 : Nat) : Int) = 0 from rfl] at this
  rw [this, show ((x0.toNat : Nat) : Int) = x0 by omega]
  simp only [List.cons_append, List.nil_append]
  rw [lens_up _ _ _ _ _ (by simp; omega) (by omega), lens_down _ _ _ _ _ (by simp; omega) (by omega), show x0 + 1 - 1 = x0 by omega, lens_back xs.length xs [] _ _ _ (by simp) hx h3]
  simp
  omega
/-- The bytes when i bits are laid: there are T of them. -/
def laid (bs : List Bool) (T i : Nat) : List UInt8 := (List.range T).map fun j => UInt8.ofNat (byteN (bs.take i) j)
theorem laid_len (bs : List Bool) (T i : Nat) : (laid bs T i).length = T := by simp [laid]
theorem laid_all (bs : List Bool) : laid bs ((bs.length + 7) / 8) bs.length = pack bs := by
  unfold laid pack
  rw [List.take_of_length_le (Nat.le_refl _)]
theorem laid_zero (bs : List Bool) (T : Nat) : laid bs T 0 = List.replicate T 0 := by
  unfold laid
  rw [List.take_zero]
  apply List.ext_getElem?
  intro j
  rw [List.getElem?_map, List.getElem?_replicate]
  by_cases h : j < T
  · rw [List.getElem?_range h, if_pos h, Option.map_some, byteN_past _ _ (by simp)]; rfl
  · rw [List.getElem?_eq_none (by simp; omega), if_neg h]; rfl
theorem laid_get (bs : List Bool) (T i j : Nat) (h : j < T) : (laid bs T i)[j]? = some (UInt8.ofNat (byteN (bs.take i) j)) := by simp [laid, List.getElem?_range h]
theorem laid_succ (bs : List Bool) (T i : Nat) (b : Bool) (hb : bs[i]? = some b) : laid bs T (i + 1) = (laid bs T i).set (i / 8) (UInt8.ofNat (byteN (bs.take i) (i / 8) ||| b.toNat * (128 / 2 ^ (i % 8)))) := by
  obtain ⟨hi, rfl⟩ := List.getElem?_eq_some_iff.1 hb
  have e : bs.take (i + 1) = bs.take i ++ [bs[i]] := List.take_succ_eq_append_getElem hi
  have hl : (bs.take i).length = i := by rw [List.length_take]; omega
  apply List.ext_getElem?
  intro j
  rw [List.getElem?_set, laid_len]
  by_cases hj : j < T
  · rw [laid_get _ _ _ _ hj, laid_get _ _ _ _ hj, e]
    by_cases he : i / 8 = j
    · subst he
      rw [if_pos rfl, if_pos hj]
      cases bs[i] with
      | false => rw [byteN_false]; simp
      | true =>
        rw [byteN_true _ _ (i % 8) (by rw [hl]; omega) (Nat.mod_lt _ (by decide)), Bool.toNat_true, Nat.one_mul, or_pow _ _ (Nat.mod_lt _ (by decide)) (byteN_head _ _ _ (by rw [hl]; omega) (Nat.mod_lt _ (by decide)))]
    · rw [if_neg he]
      cases bs[i] with
      | false => rw [byteN_false]
      | true => rw [byteN_other _ _ _ (by rw [hl]; exact fun h => he h.symm)]
  · rw [List.getElem?_eq_none (by rw [laid_len]; omega), List.getElem?_eq_none (by rw [laid_len]; omega)]
    split
    · rename_i he
      rw [if_neg (by omega)]
    · rfl
end K
end Go.Proofs.Ytickefjlkpdifaa
