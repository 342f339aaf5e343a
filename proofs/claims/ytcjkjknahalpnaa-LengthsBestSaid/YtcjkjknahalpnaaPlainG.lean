/-
  Pieces joined, in plain words.
-/
import Derived.Test.YtcjkjknahalpnaaPlainE
import Derived.Test.YtcjkjknahalpnaaPlainF
namespace Go.Proofs.Ytcjkjknahalpnaa
namespace K

theorem mayR_pack (p : List Bool) : mayR (pack p) (p.length : Nat) = true := by
  have hl := pack_length p
  unfold mayR
  rw [Bool.and_eq_true]
  refine ⟨by simp; omega, List.all_eq_true.2 fun b hb => ?_⟩
  obtain ⟨j, hj⟩ := List.getElem?_of_mem hb
  rw [Int.toNat_natCast, List.getElem?_drop] at hj
  have hlt := (List.getElem?_eq_some_iff.1 hj).1
  rw [bitsOf_length] at hlt
  rw [bitsOf_get _ _ hlt, tbit_pack _ _ hlt] at hj
  have : p.getD (p.length + j) false = false := by rw [List.getD_eq_getElem?_getD, List.getElem?_eq_none (by omega)]; rfl
  rw [this] at hj
  injection hj with hj
  subst hj
  rfl
theorem oneJoin_pack (p : List Bool) : oneJoin (pack p, (p.length : Nat)) = p := by
  have := piece_pack p 0 p.length (by omega)
  unfold piece at this
  unfold oneJoin
  rw [Int.toNat_natCast]
  simpa using this
theorem joinR_two (p q : List Bool) : joinR [(pack p, (p.length : Nat)), (pack q, (q.length : Nat))] = (pack (p ++ q), ((p.length + q.length : Nat) : Int), 0) := by
  unfold joinR
  have e : joinBits [(pack p, ((p.length : Nat) : Int)), (pack q, ((q.length : Nat) : Int))] = p ++ q := by simp [joinBits, oneJoin_pack]
  rw [e]
  simp [mayR_pack]
theorem piece_two (l : List Bool) (i n m : Nat) : piece l i n ++ piece l (i + n) m = piece l i (n + m) := by
  unfold piece
  rw [List.take_add, List.drop_drop]
theorem piece_len (l : List Bool) (i n : Nat) (h : i + n ≤ l.length) : (piece l i n).length = n := by
  unfold piece; rw [List.length_take, List.length_drop]; omega
theorem sliceR_in (s : List UInt8) (i n : Nat) (h : i + n ≤ 8 * s.length) : sliceR s i n = (pack (piece (bitsOf s) i n), (n : Int), 0) := by
  unfold sliceR
  rw [if_neg (by omega)]
  rfl
/-- Two parts that lie side by side, joined, are the part. -/
theorem parts (s : List UInt8) (i n m : Nat) (h : i + n + m ≤ 8 * s.length) :
    joinR [(pack (piece (bitsOf s) i n), (n : Int)), (pack (piece (bitsOf s) (i + n) m), (m : Int))] = (pack (piece (bitsOf s) i (n + m)), ((n + m : Nat) : Int), 0) := by
  have h1 := piece_len (bitsOf s) i n (by rw [bitsOf_length]; omega)
  have h2 := piece_len (bitsOf s) (i + n) m (by rw [bitsOf_length]; omega)
  have := joinR_two (piece (bitsOf s) i n) (piece (bitsOf s) (i + n) m)
  rw [h1, h2, piece_two] at this
  exact this
end K
end Go.Proofs.Ytcjkjknahalpnaa
