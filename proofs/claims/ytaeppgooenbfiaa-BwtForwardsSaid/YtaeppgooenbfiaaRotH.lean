/-
  The walk of rotate.Cmp.
-/
import Derived.Test.YtaeppgooenbfiaaAwakeR
import Derived.BigQuiet
namespace Go.Proofs.Ytaeppgooenbfiaa
open Go.RowKit
set_option linter.unusedVariables false
set_option linter.unusedSimpArgs false

/-- How two rotations compare. -/
def sgnR (f : Nat → Nat) (n i j : Nat) : Int := if K.N f n i < K.N f n j then -1 else if K.N f n j < K.N f n i then 1 else 0
theorem N_later (f : Nat → Nat) (hf : ∀ i, f i < 256) (m i j d : Nat) (h : K.N f m i < K.N f m j) : K.N f (m + d) i < K.N f (m + d) j := by
  rw [K.N_add, K.N_add, K.lex_num (K.N_lt f hf d _) (K.N_lt f hf d _)]
  exact .inl h
theorem sgn_lt (f : Nat → Nat) (hf : ∀ i, f i < 256) (n i j t : Nat) (ht : t < n) (h : K.N f t i = K.N f t j) (hx : f (i + t) < f (j + t)) : K.N f n i < K.N f n j := by
  have h1 : K.N f (t + 1) i < K.N f (t + 1) j := by rw [K.N, K.N, h]; omega
  have := N_later f hf (t + 1) i j (n - (t + 1)) h1
  rwa [show t + 1 + (n - (t + 1)) = n by omega] at this
def CmpI (w0 : World) (f : Nat → Nat) (n i j : Nat) (k : Nat) (v1 v2 v : Value) (w : World) : Prop :=
  ∃ t, t ≤ n ∧ k = n - t ∧ v = .int .i64 (t : Nat) ∧ v1 = .int .i64 (((i + t) % n : Nat) : Int) ∧ v2 = .int .i64 (((j + t) % n : Nat) : Int) ∧ K.N f t i = K.N f t j ∧ Kept [] w0 w
theorem byte_fS (s : ByteArray) (i t : Nat) (h : 0 < s.size) : ∃ hb : (i + t) % s.size < s.size, K.fS s.data.toList (i + t) = (s[(i + t) % s.size]'hb).toNat := by
  refine ⟨Nat.mod_lt _ h, ?_⟩
  unfold K.fS
  have hl := byte_len s
  have hm : (i + t) % s.data.toList.length = (i + t) % s.size := by rw [hl]
  rw [hm, byte_get s _ (Nat.mod_lt _ h)]

theorem cmp_in (s : ByteArray) (i j : Nat) (w : World) (hs : s.size ≤ 1000000) (hi : i < s.size) (hj : j < s.size) : Calls Try.prog 22 #[.string s, .int .i64 i, .int .i64 j] w fun e w' =>
    e = .returned (.tuple #[.int .i64 (sgnR (K.fS s.data.toList) s.size i j), .int .i64 0]) ∧ Kept [] w w' := by
  have g1 : decide ((s.size : Int) ≤ (i : Int)) = false := by simp; omega
  have g2 : decide ((s.size : Int) ≤ (j : Int)) = false := by simp; omega
  have g1' : decide (s.size ≤ i) = false := by simp; omega
  have g2' : decide (s.size ≤ j) = false := by simp; omega
  have hil : (i : Int) < (s.size : Int) := by omega
  have hjl : (j : Int) < (s.size : Int) := by omega
  go_enter Try.func22, Try.ntmps22
  go_wp2_with fail
  go_loopg [1, 2, 28] s.size (fun k v1 v2 v wr => CmpI w (K.fS s.data.toList) s.size i j k v1 v2 v wr)
  case atStart => exact ⟨0, by omega, by omega, rfl, by rw [Nat.add_zero, Nat.mod_eq_of_lt hi], by rw [Nat.add_zero, Nat.mod_eq_of_lt hj], rfl, Kept.refl _ _⟩
  case round =>
    obtain ⟨t, ht, hk, rfl, rfl, rfl, heq, hkept⟩ := hrel
    have Hk := Lib.hid hk
    have HEQ := Lib.hid heq
    have HKE := Lib.hid hkept
    clear hk heq hkept
    by_cases hlt : t < s.size
    · have hli : (t : Int) < (s.size : Int) := by omega
      obtain ⟨ha, hfa⟩ := byte_fS s i t (by omega)
      obtain ⟨hb, hfb⟩ := byte_fS s j t (by omega)
      have HFA := Lib.hid hfa
      have HFB := Lib.hid hfb
      clear hfa hfb
      obtain ⟨a, had⟩ : ∃ a, (i + t) % s.size = a := ⟨_, rfl⟩
      obtain ⟨b, hbd⟩ : ∃ b, (j + t) % s.size = b := ⟨_, rfl⟩
      have hna : (a + 1) % s.size = (i + (t + 1)) % s.size := by rw [← had, Nat.mod_add_mod, Nat.add_assoc]
      have hnb : (b + 1) % s.size = (j + (t + 1)) % s.size := by rw [← hbd, Nat.mod_add_mod, Nat.add_assoc]
      have ha' : a < s.size := by rw [← had]; exact ha
      have hb' : b < s.size := by rw [← hbd]; exact hb
      have fa : K.fS s.data.toList (i + t) = (s[a]'ha').toNat := by have := HFA.out; simp only [had] at this; exact this
      have fb : K.fS s.data.toList (j + t) = (s[b]'hb').toNat := by have := HFB.out; simp only [hbd] at this; exact this
      rw [had, hbd]
      have hai : (a : Int) < (s.size : Int) := by omega
      have hbi : (b : Int) < (s.size : Int) := by omega
      have hna0 : ((a : Int) + 1).tmod (s.size : Int) = (((a + 1) % s.size : Nat) : Int) := by rw [Int.tmod_eq_emod_of_nonneg (by omega)]; norm_cast
      have hnb0 : ((b : Int) + 1).tmod (s.size : Int) = (((b + 1) % s.size : Nat) : Int) := by rw [Int.tmod_eq_emod_of_nonneg (by omega)]; norm_cast
      have hwa : IntKind.i64.wrap ((a : Int) + 1) = (a : Int) + 1 := IntWalk.i64_in _ (by omega)
      have hwb : IntKind.i64.wrap ((b : Int) + 1) = (b : Int) + 1 := IntWalk.i64_in _ (by omega)
      have hz : ¬ (s.size : Int) = 0 := by omega
      rw [hna] at hna0
      rw [hnb] at hnb0
      obtain ⟨a2, ha2⟩ : ∃ a2, (i + (t + 1)) % s.size = a2 := ⟨_, rfl⟩
      obtain ⟨b2, hb2⟩ : ∃ b2, (j + (t + 1)) % s.size = b2 := ⟨_, rfl⟩
      rw [ha2] at hna0
      rw [hb2] at hnb0
      have HA2 := Lib.hid ha2
      have HB2 := Lib.hid hb2
      clear ha2 hb2
      have HX := Lib.hid fa
      have HY := Lib.hid fb
      clear fa fb ha hb HFA HFB had hbd hna hnb
      go_wp2_with fail
      go_quiet (fail)
      go_wp2_with fail
      · have hne2 : s[a].toNat ≠ s[b].toNat := by
          have h0 := bne_iff_ne.1 ‹((s[a].toNat : Int) != (s[b].toNat : Int)) = true›
          omega
        have HNE2 := Lib.hid hne2
        clear hne2
        go_quiet (fail)
        go_wp2_with fail
        · rename_i hlt2
          go_ret2
          have hlt3 : s[a].toNat < s[b].toNat := by simpa using hlt2
          have h1 := sgn_lt (K.fS s.data.toList) (K.fS_lt _) s.size i j t hlt HEQ.out (by rw [HX.out, HY.out]; exact hlt3)
          exact ⟨by unfold sgnR; rw [if_pos h1]; rfl, (HKE.out.drewN _).drewN _⟩
        · rename_i hlt2
          go_ret2
          have hlt3 : s[b].toNat < s[a].toNat := by
            have h0 := HNE2.out
            have : ¬ s[a].toNat < s[b].toNat := by simpa using hlt2
            omega
          have h1 := sgn_lt (K.fS s.data.toList) (K.fS_lt _) s.size j i t hlt HEQ.out.symm (by rw [HX.out, HY.out]; exact hlt3)
          exact ⟨by unfold sgnR; rw [if_neg (by omega), if_pos h1]; rfl, (HKE.out.drewN _).drewN _⟩
      · rename_i heq2
        have heq3 : s[a].toNat = s[b].toNat := by
          have : ((s[a].toNat : Nat) : Int) = ((s[b].toNat : Nat) : Int) := by simpa using heq2
          omega
        have HE3 := Lib.hid heq3
        clear heq3
        go_quiet (fail)
        go_wp2_with fail
        go_roundg (s.size - (t + 1))
        case measure => have := Hk.out; omega
        case rel => exact ⟨t + 1, by omega, rfl, by go_num, by rw [HA2.out], by rw [HB2.out], by rw [K.N, K.N, HEQ.out, HX.out, HY.out, HE3.out], HKE.out.drewN _⟩
    · obtain rfl : t = s.size := by omega
      go_wp2_with fail
      go_ret2
      exact ⟨by unfold sgnR; rw [HEQ.out, if_neg (by omega), if_neg (by omega)]; rfl, HKE.out⟩
end Go.Proofs.Ytaeppgooenbfiaa
