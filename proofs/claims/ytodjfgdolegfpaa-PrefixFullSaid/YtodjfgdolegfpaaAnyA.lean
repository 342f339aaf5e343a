/-
  Take and Unary, of the reader and of the reference, whatever they are asked.
-/
import Derived.Test.YtodjfgdolegfpaaUnary
import Derived.Test.YtodjfgdolegfpaaRefC
import Derived.Test.YtodjfgdolegfpaaPlainB
namespace Go.Proofs.Ytodjfgdolegfpaa
open Go.RowKit
set_option linter.unusedVariables false
set_option linter.unusedSimpArgs false

theorem toList_length (s : ByteArray) : s.data.toList.length = s.size := by simp only [Array.length_toList]; rfl
theorem bitsOf_len (s : ByteArray) : (K.bitsOf s.data.toList).length = 8 * s.size := by rw [K.bitsOf_length, toList_length]

/-- What Take leaves. -/
def TakePost (r q : Nat) (s : ByteArray) (i : Nat) (n : Int) (w : World) (p : Nat × Nat) (e : Ending) (w' : World) : Prop :=
  e = .returned (.tuple #[.int .u64 p.1, .int .i64 p.2]) ∧ Rd w' r q s (if p.2 = 0 then i + n.toNat else i) ∧ Kept [r] w w'
theorem take_any (r q : Nat) (s : ByteArray) (i : Nat) (n : Int) (w : World) (h : Rd w r q s i) (hs : s.size ≤ 1125899906842624) (hi : i ≤ 8 * s.size) :
    Calls Try.prog 47 #[.pointer (some ⟨r, 0, none⟩), .int .i64 n] w (TakePost r q s i n w (K.takeR (K.bitsOf s.data.toList) i n)) := by
  by_cases hn : n < 0 ∨ 64 < n
  · have hR : K.takeR (K.bitsOf s.data.toList) i n = (0, 2) := by simp [K.takeR, hn]
    rw [hR]
    exact (take_arg r q s i n w h hn).mono fun e w' ⟨he, hw⟩ => ⟨he, by rw [← hw]; simpa using h, by rw [← hw]; exact Kept.refl _ _⟩
  · obtain ⟨m, rfl⟩ := Int.eq_ofNat_of_zero_le (show 0 ≤ n by omega)
    by_cases hl : 8 * s.size < i + m
    · have hR : K.takeR (K.bitsOf s.data.toList) i m = (0, 10) := by unfold K.takeR; rw [if_neg hn, if_pos (by rw [bitsOf_len]; simpa using hl)]
      rw [hR]
      exact (take_short r q s i m w h hs hi (by omega) hl).mono fun e w' ⟨he, k, hw⟩ => ⟨he, by rw [hw]; exact h, by rw [hw]; exact (Kept.refl _ _).drewN _⟩
    · have hR : K.takeR (K.bitsOf s.data.toList) i m = (K.num (K.piece (K.bitsOf s.data.toList) i m), 0) := by unfold K.takeR; rw [if_neg hn, if_neg (by rw [bitsOf_len]; simpa using hl)]; rfl
      rw [hR]
      exact (take_ok r q s i m w h hs (by omega) (by omega)).mono fun e w' ⟨he, h1, h2⟩ => ⟨he, by simpa using h1, h2⟩
end Go.Proofs.Ytodjfgdolegfpaa
