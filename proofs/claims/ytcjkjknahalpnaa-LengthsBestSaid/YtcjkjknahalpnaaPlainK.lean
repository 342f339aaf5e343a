/-
  What was told is read, behind whatever bytes.
-/
import Derived.Test.YtcjkjknahalpnaaPlainI
namespace Go.Proofs.Ytcjkjknahalpnaa
namespace K
theorem bitsOf_append (a b : List UInt8) : bitsOf (a ++ b) = bitsOf a ++ bitsOf b := by
  apply List.ext_getElem?
  intro i
  by_cases h : i < 8 * a.length
  · rw [bitsOf_get _ _ (by rw [List.length_append]; omega), List.getElem?_append_left (by rw [bitsOf_length]; exact h), bitsOf_get _ _ h]
    unfold tbit
    have e : (a ++ b).getD (i / 8) 0 = a.getD (i / 8) 0 := by
      rw [List.getD_eq_getElem?_getD, List.getElem?_append_left (by omega), ← List.getD_eq_getElem?_getD]
    rw [e]
  · rw [List.getElem?_append_right (by rw [bitsOf_length]; omega), bitsOf_length]
    by_cases h2 : i < 8 * (a ++ b).length
    · rw [List.length_append] at h2
      rw [bitsOf_get _ _ (by rw [List.length_append]; omega), bitsOf_get _ _ (by omega)]
      unfold tbit
      have e : (a ++ b).getD (i / 8) 0 = b.getD ((i - 8 * a.length) / 8) 0 := by
        rw [List.getD_eq_getElem?_getD, List.getElem?_append_right (by omega), ← List.getD_eq_getElem?_getD]
        congr 1
        omega
      rw [e, show (i - 8 * a.length) % 8 = i % 8 by omega]
    · rw [List.length_append] at h2
      rw [List.getElem?_eq_none (by rw [bitsOf_length, List.length_append]; omega), List.getElem?_eq_none (by rw [bitsOf_length]; omega)]
theorem bitsOf_pack (B : List Bool) : ∃ pad, bitsOf (pack B) = B ++ pad := by
  refine ⟨(bitsOf (pack B)).drop B.length, ?_⟩
  have := piece_pack B 0 B.length (by omega)
  unfold piece at this
  simp at this
  have h := List.take_append_drop B.length (bitsOf (pack B))
  rw [this] at h
  exact h.symm
theorem lensR_tail (P R : List Bool) (v n : Nat) (hv : v < 32) (hn : 2 ≤ n ∧ n ≤ 258) : lensR (P ++ (low v 5 ++ R)) (P.length : Nat) (n : Nat) = lens n [] (v : Int) (P.length + 5) R := by
  have hl : (low v 5).length = 5 := by simp [low]
  unfold lensR
  rw [if_neg (by simp only [List.length_append]; omega), Int.toNat_natCast, if_neg (by simp only [List.length_append]; omega), Int.toNat_natCast]
  have e1 : piece (P ++ (low v 5 ++ R)) P.length 5 = low v 5 := by
    have := piece_append P (low v 5) R
    rw [hl, List.append_assoc] at this
    exact this
  have e2 : (P ++ (low v 5 ++ R)).drop (P.length + 5) = R := by
    have h5 : (P ++ low v 5).length = P.length + 5 := by rw [List.length_append, hl]
    rw [← List.append_assoc, ← h5, List.drop_left]
  rw [e1, e2, num_low, Nat.mod_eq_of_lt hv]
theorem lensR_back (xs : List Int) (hok : lensOk xs = true) (A C : List UInt8) :
    lensR (bitsOf (A ++ pack (showBits xs) ++ C)) ((8 * A.length : Nat) : Int) (xs.length : Nat) = (xs, 8 * A.length + (showBits xs).length, 0) := by
  obtain ⟨⟨h1, h2⟩, h3⟩ := (lensOk_iff xs).1 hok
  obtain ⟨pad, hp⟩ := bitsOf_pack (showBits xs)
  have hx := h3 _ (head_mem xs (by omega))
  rw [bitsOf_append, bitsOf_append, hp, List.append_assoc, List.append_assoc]
  conv => lhs; rw [show (8 * A.length : Nat) = (bitsOf A).length by rw [bitsOf_length]]
  have e : showBits xs = low (xs.headD 0).toNat 5 ++ showFrom (xs.headD 0) xs := rfl
  have hlen : (showBits xs).length = 5 + (showFrom (xs.headD 0) xs).length := by rw [e, List.length_append]; simp [low]
  rw [hlen]
  rw [e, List.append_assoc, lensR_tail _ _ _ _ (by omega) ⟨h1, h2⟩]
  rw [show (((xs.headD 0).toNat : Nat) : Int) = xs.headD 0 by omega, lens_back xs.length xs [] _ _ _ (by simp) hx h3, bitsOf_length]
  simp [Nat.add_assoc]
end K
end Go.Proofs.Ytcjkjknahalpnaa
