/-
  RotatePeriods: the walk.
-/
import Derived.Test.YtaeppgooenbfiaaAwakeR
import Derived.Test.YtaeppgooenbfiaaPlainX
namespace Go.Proofs.Ytaeppgooenbfiaa
open Go.RowKit
set_option linter.unusedVariables false
set_option linter.unusedSimpArgs false

theorem rotation_ok (s : ByteArray) (p : Nat) (w : World) (hp : p ≤ s.size) (hs : s.size ≤ 1000000) : Calls Try.prog 35 #[.string s, .int .i64 p] w fun e w' => e = .returned (.string (s.extract p s.size ++ s.extract 0 p)) ∧ Kept [] w w' := by
  have hpi : (p : Int) ≤ (s.size : Int) := by omega
  go_enter Try.func35, Try.ntmps35
  go_wp2_with fail
  go_quiet (fail)
  go_wp2_with fail
  go_ret
  exact ⟨rfl, (Kept.refl _ _).drewN _⟩

/-- The reference's period. -/
def RefPerP (l : List UInt8) (r : Nat) : Prop := (1 ≤ r ∧ r < l.length ∧ l.drop r ++ l.take r = l ∧ ∀ q, 1 ≤ q → q < r → l.drop q ++ l.take q ≠ l) ∨ (r = l.length ∧ ∀ q, 1 ≤ q → q < l.length → l.drop q ++ l.take q ≠ l)
def RefPerI (w0 : World) (l : List UInt8) (k : Nat) (v : Value) (w : World) : Prop :=
  ∃ p, 1 ≤ p ∧ k + p = l.length + 1 ∧ v = .int .i64 (p : Nat) ∧ (∀ q, 1 ≤ q → q < p → l.drop q ++ l.take q ≠ l) ∧ Kept [] w0 w
theorem refperiod_any (s : ByteArray) (w : World) (hs : s.size ≤ 1000000) : Calls Try.prog 21 #[.string s] w fun e w' => (∃ r : Nat, e = .returned (.int .i64 r) ∧ RefPerP s.data.toList r) ∧ Kept [] w w' := by
  have hl : s.data.toList.length = s.size := byte_len s
  go_enter Try.func21, Try.ntmps21
  go_wp2_with fail
  go_loopg [3] s.size (fun k v wr => RefPerI w s.data.toList k v wr)
  case atStart => exact ⟨1, by omega, by omega, rfl, fun q h1 h2 => by omega, Kept.refl _ _⟩
  case round =>
    obtain ⟨p, hp1, hk, rfl, hno, hkept⟩ := hrel
    have Hk := Lib.hid hk
    have HNO := Lib.hid hno
    have HKE := Lib.hid hkept
    clear hk hno hkept
    by_cases hlt : p < s.size
    · have hli : (p : Int) < (s.size : Int) := by omega
      have HROT := Lib.hid (rot_list s p (by omega))
      go_wp2_with fail
      refine (rotation_ok s p _ (by omega) hs).mono ?_
      rintro e w2 ⟨rfl, hk2⟩
      have HK2 := Lib.hid (HKE.out.new hk2 (by simp [Fresh]))
      clear hk2
      go_wp2_with fail
      · rename_i hb
        go_ret
        refine ⟨⟨p, rfl, .inl ⟨hp1, by omega, ?_, HNO.out⟩⟩, HK2.out⟩
        have he := eq_of_beq hb
        rw [HROT.out, ByteArray.toList_eq] at he
        exact he
      · rename_i hb
        go_roundg (s.size - p)
        case measure => have := Hk.out; omega
        case rel =>
          refine ⟨p + 1, by omega, by omega, by go_num, fun q h1 h2 => ?_, HK2.out⟩
          rcases Nat.lt_or_ge q p with h | h
          · exact HNO.out q h1 h
          · obtain rfl : q = p := by omega
            intro h3
            rw [HROT.out, ByteArray.toList_eq, h3] at hb
            simp at hb
    · go_wp2_with fail
      go_ret
      exact ⟨⟨s.size, rfl, .inr ⟨hl.symm, fun q h1 h2 => HNO.out q h1 (by omega)⟩⟩, HKE.out⟩

theorem per_same (l : List UInt8) (r r' : Nat) (h : PerP l r) (h' : RefPerP l r') : r = r' := by
  -- the least place at which the text is itself divides its length
  have full : 1 ≤ l.length → isPer l l.length := fun _ => ⟨Nat.mod_self _, by rw [List.drop_length, List.take_length]; rfl⟩
  rcases h' with ⟨a, b, c, d⟩ | ⟨rfl, d⟩
  · have hd := K.least_div l r' a (by omega) c d
    rcases h with ⟨a2, b2, c2, d2⟩ | ⟨rfl, d2⟩
    · rcases Nat.lt_trichotomy r r' with h | h | h
      · exact absurd c2.2 (d r a2 h)
      · exact h
      · exact absurd ⟨hd, c⟩ (d2 r' a h)
    · exact absurd ⟨hd, c⟩ (d2 r' a (by omega))
  · rcases h with ⟨a2, b2, c2, d2⟩ | ⟨rfl, d2⟩
    · by_cases h : r < l.length
      · exact absurd c2.2 (d r a2 h)
      · omega
    · by_cases h : 1 ≤ l.length
      · exact absurd (full h) (d2 _ h (Nat.le_refl _))
      · omega

theorem rotatePeriods_walk (s : ByteArray) (w : World) (hs : s.size ≤ 140737488351232) :
    Calls Try.prog 5 #[.string s] w fun e w' => e = .returned (.bool true) ∧ Kept [] w w' := by
  by_cases h : 1000 < s.size
  · have g1 : decide (1000 < (s.size : Int)) = true := by simp; omega
    go_enter Try.func5, Try.ntmps5
    go_wp2_with ((go_at_call 17; refine (awakeR _).mono ?_; rintro e w' ⟨rfl, hk⟩))
    go_ret
    exact ⟨rfl, by assumption⟩
  · have g1 : decide (1000 < (s.size : Int)) = false := by simp; omega
    go_enter Try.func5, Try.ntmps5
    go_wp2_with fail
    refine (period_any s _ (by omega)).mono ?_
    rintro e w1 ⟨⟨r, rfl, hP⟩, hk1⟩
    have HP := Lib.hid hP
    have HK1 := Lib.hid hk1
    clear hP hk1
    go_wp2_with fail
    refine (refperiod_any s _ (by omega)).mono ?_
    rintro e w2 ⟨⟨r', rfl, hP'⟩, hk2⟩
    obtain rfl := per_same _ _ _ HP.out hP'
    have HK2 := Lib.hid (HK1.out.new hk2 (by simp [Fresh]))
    clear hP' hk2
    go_wp2_with ((go_at_call 17; refine (awakeR _).mono ?_; rintro e w' ⟨rfl, hk⟩))
    go_ret
    exact ⟨rfl, HK2.out.new (by assumption) (by simp [Fresh])⟩
end Go.Proofs.Ytaeppgooenbfiaa
