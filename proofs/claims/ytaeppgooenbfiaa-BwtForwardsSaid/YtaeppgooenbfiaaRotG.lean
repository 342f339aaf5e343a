/-
  The walk of rotate.Period.
-/
import Derived.Test.YtaeppgooenbfiaaRotA
import Derived.Test.YtaeppgooenbfiaaSymA
import Derived.BigQuiet
namespace Go.Proofs.Ytaeppgooenbfiaa
open Go.RowKit
set_option linter.unusedVariables false
set_option linter.unusedSimpArgs false

/-- Is a text itself, p bytes on? -/
def isPer (l : List UInt8) (p : Nat) : Prop := l.length % p = 0 ∧ l.drop p ++ l.take p = l
/-- Period's answer. -/
def PerP (l : List UInt8) (r : Nat) : Prop := (1 ≤ r ∧ r ≤ l.length ∧ isPer l r ∧ ∀ q, 1 ≤ q → q < r → ¬ isPer l q) ∨ (r = 0 ∧ ∀ q, 1 ≤ q → q ≤ l.length → ¬ isPer l q)
def PerI (w0 : World) (l : List UInt8) (k : Nat) (v : Value) (w : World) : Prop :=
  ∃ p, 1 ≤ p ∧ p ≤ l.length + 1 ∧ k + p = l.length + 1 ∧ v = .int .i64 (p : Nat) ∧ (∀ q, 1 ≤ q → q < p → ¬ isPer l q) ∧ Kept [] w0 w
theorem rot_list (s : ByteArray) (p : Nat) (h : p ≤ s.size) : (s.extract p s.size ++ s.extract 0 p).toList = s.data.toList.drop p ++ s.data.toList.take p := by
  have hd : s.data.toList.length = s.size := byte_len s
  rw [ByteArray.toList_eq, ByteArray.data_append, Array.toList_append, ByteArray.data_extract, ByteArray.data_extract, Array.toList_extract, Array.toList_extract, List.extract_eq_take_drop, List.extract_eq_take_drop]
  rw [List.take_of_length_le (by rw [List.length_drop, hd]; exact Nat.le_refl _), Nat.sub_zero, List.drop_zero]

theorem period_any (s : ByteArray) (w : World) (hs : s.size ≤ 1000000) : Calls Try.prog 20 #[.string s] w fun e w' => (∃ r : Nat, e = .returned (.int .i64 r) ∧ PerP s.data.toList r) ∧ Kept [] w w' := by
  have hl : s.data.toList.length = s.size := byte_len s
  go_enter Try.func20, Try.ntmps20
  go_wp2_with fail
  go_loopg [4] s.size (fun k v wr => PerI w s.data.toList k v wr)
  case atStart => exact ⟨1, by omega, by omega, by omega, rfl, fun q h1 h2 => by omega, Kept.refl _ _⟩
  case round =>
    obtain ⟨p, hp1, hp, hk, rfl, hno, hkept⟩ := hrel
    have Hk := Lib.hid hk
    have HNO := Lib.hid hno
    have HKE := Lib.hid hkept
    clear hk hno hkept
    by_cases hlt : p ≤ s.size
    · have hli : (p : Int) ≤ (s.size : Int) := by omega
      have hpz : ¬ (p : Int) = 0 := by omega
      have hrem : (s.size : Int).tmod (p : Int) = ((s.size % p : Nat) : Int) := by rw [Int.tmod_eq_emod_of_nonneg (by omega)]; norm_cast
      obtain ⟨d, hd⟩ : ∃ d, s.size % p = d := ⟨_, rfl⟩
      rw [hd] at hrem
      have hrot := rot_list s p hlt
      have HROT := Lib.hid hrot
      have HD := Lib.hid hd
      clear hrot hd
      by_cases hd0 : d = 0
      · subst hd0
        go_wp2_with fail
        go_quiet (fail)
        go_wp2_with fail
        · rename_i hb
          go_ret
          refine ⟨⟨p, rfl, .inl ⟨hp1, by omega, ⟨by rw [hl, HD.out], ?_⟩, HNO.out⟩⟩, HKE.out.drewN _⟩
          have he := eq_of_beq hb
          rw [HROT.out, ByteArray.toList_eq] at he
          exact he
        · rename_i hb
          go_roundg (s.size - p)
          case measure => have := Hk.out; omega
          case rel =>
            refine ⟨p + 1, by omega, by omega, by omega, by go_num, fun q h1 h2 => ?_, HKE.out.drewN _⟩
            rcases Nat.lt_or_ge q p with h | h
            · exact HNO.out q h1 h
            · obtain rfl : q = p := by omega
              rintro ⟨-, h3⟩
              rw [HROT.out, ByteArray.toList_eq, h3] at hb
              simp at hb
      · have k1 : ((d : Int) == 0) = false := beq_eq_false_iff_ne.2 (by omega)
        have k1' : ¬ (d : Int) = 0 := by omega
        go_wp2_with fail
        go_quiet (fail)
        go_wp2_with fail
        go_roundg (s.size - p)
        case measure => have := Hk.out; omega
        case rel =>
          refine ⟨p + 1, by omega, by omega, by omega, by go_num, fun q h1 h2 => ?_, HKE.out.drewN _⟩
          rcases Nat.lt_or_ge q p with h | h
          · exact HNO.out q h1 h
          · obtain rfl : q = p := by omega
            rintro ⟨h3, -⟩
            rw [hl, HD.out] at h3
            exact hd0 h3
    · go_wp2_with fail
      go_ret
      exact ⟨⟨0, rfl, .inr ⟨rfl, fun q h1 h2 => HNO.out q h1 (by omega)⟩⟩, HKE.out⟩
end Go.Proofs.Ytaeppgooenbfiaa
