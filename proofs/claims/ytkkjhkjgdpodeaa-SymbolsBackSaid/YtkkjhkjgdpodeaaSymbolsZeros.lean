/-
  SymbolsZeros: the walk.
-/
import Derived.Test.YtkkjhkjgdpodeaaAwakeS
import Derived.Test.YtkkjhkjgdpodeaaSymbolsFronts
namespace Go.Proofs.Ytkkjhkjgdpodeaa
open Go.RowKit
set_option linter.unusedVariables false
set_option linter.unusedSimpArgs false

/-- In the loop: i places are looked at. -/
def ZeroI (s : ByteArray) (w0 : World) (k : Nat) (c : Value) (w : World) : Prop :=
  ∃ i, 1 ≤ i ∧ i ≤ s.size ∧ k = s.size - i ∧ c = .int .i64 (i : Nat) ∧ Kept [] w0 w
theorem own_front (s : ByteArray) (h : ¬ s.size = 0) : ∃ l, K.front (K.uses s.data.toList) s.data.toList = some l ∧ K.frontR s.data.toList (K.uses s.data.toList) = (l, 0) ∧ l.length = s.size := by
  obtain ⟨l, hl⟩ := K.front_some s.data.toList (K.uses s.data.toList) (fun b hb => (K.mem_uses _ b).2 hb)
  have hne : s.data.toList ≠ [] := fun he => h (by rw [← byte_len, he]; rfl)
  refine ⟨l, hl, ?_, by rw [K.front_length _ _ _ hl, byte_len]⟩
  unfold K.frontR
  rw [K.mayS_uses _ hne, if_pos rfl, hl]
theorem ba_list (l : List UInt8) : (ByteArray.mk l.toArray).data.toList = l := by simp
theorem uses_length (l : List UInt8) : (K.uses l).length ≤ 256 := K.usesTo_length l 256
theorem ba_len (l : List UInt8) : (ByteArray.mk l.toArray).size = l.length := by rw [← byte_len, ba_list]

theorem symbolsZeros_walk (s : ByteArray) (w : World) (hs : s.size ≤ 140737488351232) :
    Calls Try.prog 6 #[.string s] w fun e w' => e = .returned (.bool true) ∧ Kept [] w w' := by
  by_cases h0 : s.size = 0
  · have g0 : s.toList = [] := by rw [ByteArray.toList_eq]; exact List.eq_nil_of_length_eq_zero (by rw [byte_len]; exact h0)
    have g2 : s.toList.isEmpty = true := by rw [g0]; rfl
    clear h0
    go_enter Try.func6, Try.ntmps6
    go_wp2_with ((go_at_call 12; refine (awakeS _).mono ?_; rintro e w' ⟨rfl, hk⟩))
    go_ret
    exact ⟨rfl, by assumption⟩
  · have g0 : ¬ s.toList = [] := by
      rw [ByteArray.toList_eq]
      exact fun he => h0 (by rw [← byte_len, he]; rfl)
    have g2 : s.toList.isEmpty = false := by simpa using g0
    by_cases h : 5000 < s.size
    · have g1 : decide (5000 < (s.size : Int)) = true := by simp; omega
      go_enter Try.func6, Try.ntmps6
      go_wp2_with ((go_at_call 12; refine (awakeS _).mono ?_; rintro e w' ⟨rfl, hk⟩))
      go_ret
      exact ⟨rfl, by assumption⟩
    · have g1 : decide (5000 < (s.size : Int)) = false := by simp; omega
      obtain ⟨l, hl, hR, hll⟩ := own_front s h0
      have HL := Lib.hid hl
      have HR := Lib.hid hR
      have HLL := Lib.hid hll
      clear hl hR hll
      go_enter Try.func6, Try.ntmps6
      go_wp2_with fail
      refine (sof_any s _ hs).mono ?_
      rintro e w1 ⟨rfl, hk1⟩
      have HK1 := Lib.hid hk1
      clear hk1
      go_wp2_with fail
      refine (sfront_any s ⟨(K.uses s.data.toList).toArray⟩ _ (by omega) (by rw [ba_len]; have := uses_length s.data.toList; omega)).mono ?_
      rintro e w2 hp
      rw [ba_list, HR.out] at hp
      obtain ⟨a2, c2, rfl, hrow2, hk2, -⟩ := hp
      have HK2 := Lib.hid (HK1.out.new hk2 (by simp [Fresh]))
      have HROW := Lib.hid hrow2
      have hrl : ((l, 0) : List Nat × Nat).1.length = s.size := HLL.out
      rw [hrl]
      clear hk2 hrow2 hrl
      go_wp2_with fail
      go_loopg [5] (s.size - 1) (fun k c wr => ZeroI s w2 k c wr)
      case atStart => exact ⟨1, by omega, by omega, by omega, rfl, Kept.refl _ _⟩
      case round =>
        obtain ⟨i, hi1, hi, hk, rfl, hkept⟩ := hrel
        have Hk := Lib.hid hk
        have HKE := Lib.hid hkept
        clear hk hkept
        by_cases hlt : i < s.size
        · have hli : (i : Int) < (s.size : Int) := by omega
          have hw1 : IntKind.i64.wrap ((i : Int) - 1) = (i : Int) - 1 := IntWalk.i64_in _ (by omega)
          have hp0 : (0 : Int) ≤ (i : Int) - 1 := by omega
          have hp1 : (1 : Int) ≤ (i : Int) := by omega
          have hp2 : ((i : Int) - 1).toNat = i - 1 := by omega
          have hp3 : i - 1 < s.size := by omega
          have hp4 : (i : Int) - 1 < (s.size : Int) := by omega
          have hzero := K.front_zero s.data.toList _ _ HL.out (i - 1) (by rw [byte_len]; omega)
          rw [show i - 1 + 1 = i by omega, show (default : UInt8) = 0 from rfl, byte_get s i hlt, byte_get s (i - 1) hp3] at hzero
          obtain ⟨x, hx⟩ : ∃ x, l[i]? = some x := ⟨_, List.getElem?_eq_getElem (by rw [HLL.out]; exact hlt)⟩
          rw [List.getD, hx, Option.getD_some] at hzero
          have hsee := (HROW.out.kept HKE.out (by simp)).seeA
          obtain ⟨b0, off, ha, hcells⟩ := hsee.at (by rw [natVals_length]; show 0 < l.length; rw [HLL.out]; omega)
          have c0 := hcells i (.int .i64 (x : Nat)) (by simp [natVals, hx])
          subst ha
          have hu : ∀ (p q : UInt8), (p = q) ↔ (p.toNat = q.toNat) := fun p q => UInt8.toNat_inj.symm
          rw [hu] at hzero
          have HZ := Lib.hid hzero
          clear hx hsee hcells hzero hu
          by_cases hx0 : x = 0
          · have g3 : ((((s[i]'hlt).toNat : Nat) : Int) == (((s[i - 1]'hp3).toNat : Nat) : Int)) = true := by
              have := HZ.out.1 hx0
              simp; omega
            subst hx0
            go_wp2_with fail
            go_quiet (fail)
            go_wp2_with fail
            go_roundg (s.size - (i + 1))
            case measure => have := Hk.out; omega
            case rel => exact ⟨i + 1, by omega, by omega, rfl, by go_num, HKE.out.drewN _⟩
          · have g3 : ((((s[i]'hlt).toNat : Nat) : Int) == (((s[i - 1]'hp3).toNat : Nat) : Int)) = false := by
              have hne : ¬ (s[i]'hlt).toNat = (s[i - 1]'hp3).toNat := fun h => hx0 (HZ.out.2 h)
              rw [beq_eq_false_iff_ne]; omega
            have g4 : (((x : Nat) : Int) == 0) = false := by rw [beq_eq_false_iff_ne]; omega
            go_wp2_with fail
            go_quiet (fail)
            go_wp2_with fail
            go_roundg (s.size - (i + 1))
            case measure => have := Hk.out; omega
            case rel => exact ⟨i + 1, by omega, by omega, rfl, by go_num, HKE.out.drewN _⟩
        · go_wp2_with ((go_at_call 12; refine (awakeS _).mono ?_; rintro e w' ⟨rfl, hk⟩))
          go_ret
          exact ⟨rfl, HK2.out.new (HKE.out.new (by assumption) (by simp [Fresh])) (by simp [Fresh])⟩
end Go.Proofs.Ytkkjhkjgdpodeaa
