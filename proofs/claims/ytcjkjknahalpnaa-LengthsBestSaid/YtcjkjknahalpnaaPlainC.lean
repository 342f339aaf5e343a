/-
  What was packed is read again, in plain words.
-/
import Derived.Test.YtcjkjknahalpnaaPlain
namespace Go.Proofs.Ytcjkjknahalpnaa
namespace K

theorem tbit_pack (bs : List Bool) (i : Nat) (h : i < 8 * (pack bs).length) : tbit (pack bs) i = bs.getD i false := by
  have hi : i / 8 < (bs.length + 7) / 8 := by rw [pack_length] at h; omega
  unfold tbit
  rw [List.getD, pack_getElem bs _ hi, Option.getD_some, UInt8.toNat_ofNat', Nat.mod_eq_of_lt (byteN_lt bs _)]
  have e : ((byteN bs (i / 8)).testBit (7 - i % 8)).toNat = (bs.getD i false).toNat := by
    rw [testBit_div]
    have hb : (bs.getD i false).toNat = bt bs (8 * (i / 8) + i % 8) := by unfold bt; rw [show 8 * (i / 8) + i % 8 = i by omega]
    rw [hb]
    unfold byteN
    have h0 := bt_le bs (8 * (i / 8)); have h1 := bt_le bs (8 * (i / 8) + 1); have h2 := bt_le bs (8 * (i / 8) + 2); have h3 := bt_le bs (8 * (i / 8) + 3)
    have h4 := bt_le bs (8 * (i / 8) + 4); have h5 := bt_le bs (8 * (i / 8) + 5); have h6 := bt_le bs (8 * (i / 8) + 6); have h7 := bt_le bs (8 * (i / 8) + 7)
    have hr : i % 8 < 8 := Nat.mod_lt _ (by decide)
    generalize i % 8 = r at hr
    match r, hr with
    | 0, _ => simp; omega
    | 1, _ => simp; omega
    | 2, _ => simp; omega
    | 3, _ => simp; omega
    | 4, _ => simp; omega
    | 5, _ => simp; omega
    | 6, _ => simp; omega
    | 7, _ => simp; omega
  revert e
  cases (byteN bs (i / 8)).testBit (7 - i % 8) <;> cases bs.getD i false <;> simp
theorem piece_pack (bs : List Bool) (i n : Nat) (h : i + n ≤ bs.length) : piece (bitsOf (pack bs)) i n = piece bs i n := by
  apply List.ext_getElem?
  intro j
  unfold piece
  rw [List.getElem?_take, List.getElem?_take]
  split
  · rename_i hj
    rw [List.getElem?_drop, List.getElem?_drop, bitsOf_get _ _ (by rw [pack_length]; omega), tbit_pack _ _ (by rw [pack_length]; omega)]
    rw [List.getD, List.getElem?_eq_getElem (show i + j < bs.length by omega)]
    rfl
  · rfl
theorem low_succ (v n : Nat) : low v (n + 1) = low (v / 2) n ++ [v.testBit 0] := by
  unfold low
  rw [List.range_succ, List.map_append]
  congr 1
  · refine List.map_congr_left fun k hk => ?_
    have hk' := List.mem_range.1 hk
    rw [show n + 1 - 1 - k = (n - 1 - k) + 1 by omega, Nat.testBit_succ]
  · simp
theorem num_low (v n : Nat) : num (low v n) = v % 2 ^ n := by
  induction n generalizing v with
  | zero => simp [low, num]; omega
  | succ n ih =>
    rw [low_succ, num_snoc, ih, testBit_div, Nat.pow_succ, Nat.mul_comm (2 ^ n) 2, Nat.mod_mul]
    simp
    omega
theorem piece_append (a b c : List Bool) : piece (a ++ b ++ c) a.length b.length = b := by
  unfold piece
  rw [List.append_assoc, List.drop_left, List.take_left]
end K
end Go.Proofs.Ytcjkjknahalpnaa
