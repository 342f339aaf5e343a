/-
  Symbols that were told in bits, behind whatever bytes, are read again.
-/
import Derived.Test.YtaeppgooenbfiaaPlainS
import Derived.Test.YtaeppgooenbfiaaPlainK
namespace Go.Proofs.Ytaeppgooenbfiaa
namespace K
set_option linter.unusedVariables false

/-- n bits behind a text of bytes, out of what was packed. -/
theorem piece_behind (a : List UInt8) (bs : List Bool) (j n : Nat) (h : j + n ≤ bs.length) : piece (bitsOf (a ++ pack bs)) (8 * a.length + j) n = piece bs j n := by
  rw [← piece_pack bs j n h, bitsOf_append]
  unfold piece
  rw [List.drop_append, List.drop_of_length_le (by rw [bitsOf_length]; omega), List.nil_append, bitsOf_length]
  rw [show 8 * a.length + j - 8 * a.length = j by omega]
theorem piece_part (a b : List Bool) (j n : Nat) (h : j + n ≤ b.length) : piece (a ++ b) (a.length + j) n = piece b j n := by
  unfold piece
  rw [List.drop_append, List.drop_of_length_le (by omega), List.nil_append, show a.length + j - a.length = j by omega]
theorem getD_behind (a : List UInt8) (bs : List Bool) (j : Nat) (h : j < bs.length) : (bitsOf (a ++ pack bs)).getD (8 * a.length + j) false = bs.getD j false := by
  have := piece_behind a bs j 1 (by omega)
  unfold piece at this
  have h2 := congrArg (fun l => l[0]?) this
  simp only [List.getElem?_take, List.getElem?_drop, Nat.add_zero, Nat.zero_lt_one, if_true] at h2
  rw [List.getD, List.getD, h2]
theorem takeRows_congr (bs : List Bool) (f g : Nat → Bool) : ∀ k i p out, (∀ j, i ≤ j → j < i + k → f j = g j) → takeRows bs f k i p out = takeRows bs g k i p out := by
  intro k
  induction k with
  | zero => intro i p out _; rfl
  | succ k ih =>
    intro i p out h
    rw [takeRows, takeRows, h i (by omega) (by omega), ih (i + 1) _ _ (fun j h1 h2 => h j (by omega) (by omega)), ih (i + 1) _ _ (fun j h1 h2 => h j (by omega) (by omega))]
theorem takeSR_back (a l : List UInt8) (h0 : l ≠ []) (hl : uses l = l) : takeSR (bitsOf (a ++ pack (symBits l))) ((8 * a.length : Nat) : Int) = (l, ((8 * a.length + (symBits l).length : Nat) : Int), 0) := by
  have hlen : (symBits l).length = 16 + (rowsBits l 16).length := by unfold symBits; rw [List.length_append, headBits_length]
  have hbl : (bitsOf (a ++ pack (symBits l))).length = 8 * a.length + 8 * (((symBits l).length + 7) / 8) := by rw [bitsOf_length, List.length_append, pack_length]; omega
  unfold takeSR
  rw [if_neg (by rw [hbl]; omega), Int.toNat_natCast, if_neg (by rw [hbl]; omega)]
  have hc : takeRows (bitsOf (a ++ pack (symBits l))) (fun i => (bitsOf (a ++ pack (symBits l))).getD (8 * a.length + i) false) 16 0 (8 * a.length + 16) [] =
      takeRows (bitsOf (a ++ pack (symBits l))) (rowUsed l) 16 0 (8 * a.length + 16) [] := by
    refine takeRows_congr _ _ _ 16 0 _ _ fun j _ hj => ?_
    show (bitsOf (a ++ pack (symBits l))).getD (8 * a.length + j) false = rowUsed l j
    rw [getD_behind _ _ _ (by omega)]
    unfold symBits
    rw [List.getD, List.getElem?_append_left (by rw [headBits_length]; omega)]
    simp [headBits, List.getElem?_range (show j < 16 by omega)]
  rw [hc]
  have ht := takeRows_told (bitsOf (a ++ pack (symBits l))) l (8 * a.length + 16) (fun j n hj => by
    rw [Nat.add_assoc, piece_behind _ _ _ _ (by omega)]
    have := piece_part (headBits l) (rowsBits l 16) j n hj
    rw [headBits_length] at this
    exact this) (by rw [hbl]; omega) 16 0 rfl
  rw [show (rowsBits l 0).length = 0 from rfl, Nat.add_zero, show usesTo l (16 * 0) = [] from rfl] at ht
  rw [ht, saidR, hl, if_neg h0, hlen]
  congr 2
  omega
end K
end Go.Proofs.Ytaeppgooenbfiaa
