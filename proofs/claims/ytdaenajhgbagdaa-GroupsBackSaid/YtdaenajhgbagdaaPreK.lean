/-
  The walks of layer 9's references: Next, All, Decode.
-/
import Derived.Test.YtdaenajhgbagdaaPreJ
import Derived.Test.YtdaenajhgbagdaaPreY
import Derived.Test.YtdaenajhgbagdaaWriteA
namespace Go.Proofs.Ytdaenajhgbagdaa
open Go.RowKit
set_option linter.unusedVariables false
set_option linter.unusedSimpArgs false

/-- In Next's loop: n bits are held against. -/
def RNxtI (w0 : World) (T : List (List Bool)) (bs : List Bool) (p : Nat) (R : Nat × Nat × Nat) (k : Nat) (c : Value) (w : World) : Prop :=
  ∃ n, 1 ≤ n ∧ n ≤ 21 ∧ k = 21 - n ∧ c = .int .i64 (n : Nat) ∧ R = K.refNext T bs p (21 - n) n ∧ Kept [] w0 w
set_option maxHeartbeats 1000000 in
theorem rnext_any (a : Option Addr) (cap : Nat) (T : List (List Bool)) (b : Option Addr) (bc L : Nat) (bs : List Bool) (p : Nat) (w : World) (hT : SeesM w a T.length (T.map bis)) (hb : Sees w 1 b L (bis bs)) (hL : bs.length = L) (hTl : T.length ≤ 1000) (hl : L ≤ 1000000000000) (hlc : L ≤ bc) (hp : p ≤ L) :
    Calls Try.prog 51 #[.slice a T.length cap, .slice b L bc, .int .i64 p] w (NatAtPost (K.refNext T bs p 20 1) w) := by
  have HT := Lib.hid hT
  have HB := Lib.hid hb
  have HL := Lib.hid hL
  obtain ⟨R, hR⟩ : ∃ R, K.refNext T bs p 20 1 = R := ⟨_, rfl⟩
  rw [hR]
  have HR := Lib.hid hR
  clear hT hb hL hR
  go_enter Try.func51, Try.ntmps51
  go_wp2_with fail
  go_loopg [9] 20 (fun k c wr => RNxtI w T bs p R k c wr)
  case atStart => exact ⟨1, by omega, by omega, by omega, rfl, HR.out.symm, Kept.refl _ _⟩
  case round =>
    obtain ⟨n, hn1, hn, hk, rfl, hRn, hkept⟩ := hrel
    have Hk := Lib.hid hk
    have HRN := Lib.hid hRn
    have HKE := Lib.hid hkept
    clear hk hRn hkept
    by_cases hlt : n ≤ 20
    · have hni : (n : Int) ≤ 20 := by omega
      by_cases hsh : L < p + n
      · have hshi : (L : Int) < (p : Int) + (n : Int) := by omega
        have hR2 : R = (0, 0, 10) := by
          rw [HRN.out, show 21 - n = (20 - n) + 1 by omega, K.refNext, if_pos (by rw [HL.out]; exact hsh)]
        have HR2 := Lib.hid hR2
        clear hR2
        go_wp2_with fail
        go_ret3
        rw [HR2.out]
        exact ⟨rfl, HKE.out⟩
      · have hshi : ¬ (L : Int) < (p : Int) + (n : Int) := by omega
        have hz0 : (0 : Int) ≤ (p : Int) := by omega
        have hz1 : (p : Int) ≤ (p : Int) + (n : Int) := by omega
        have hz2 : (p : Int) + (n : Int) ≤ (bc : Int) := by omega
        have hz3 : ((p : Int) + (n : Int)).toNat = p + n := by omega
        have hz4 : ¬ p = bc := by omega
        obtain ⟨bo, oo, rfl, -⟩ := HB.out.at (by rw [bis_length, HL.out]; omega)
        have hpart := (HB.out.kept0 HKE.out).part p n (by omega) (a' := some ⟨bo, oo + p, none⟩) (by rintro - b off he; injection he with he; injection he with h1 h2; subst h1 h2; rfl)
        have hpc : ((bis bs).drop p).take n = bis (K.piece bs p n) := by unfold K.piece; simp [bis, List.map_drop, List.map_take]
        have hpl := K.piece_length bs p n (by rw [HL.out]; omega)
        rw [hpc] at hpart
        have hstep : R = if 0 ≤ (K.begTo T (K.piece bs p n) T.length).2 then ((K.begTo T (K.piece bs p n) T.length).2.toNat, p + n, 0)
            else if (K.begTo T (K.piece bs p n) T.length).1 = 0 then (0, 0, 90) else K.refNext T bs p (20 - n) (n + 1) := by
          rw [HRN.out, show 21 - n = (20 - n) + 1 by omega, K.refNext, if_neg (by rw [HL.out]; exact hsh)]
        have hcall := rbegins_any a cap T (some ⟨bo, oo + p, none⟩) (bc - p) (K.piece bs p n) wr (HT.out.kept0 HKE.out) (by rw [hpl]; exact hpart) hTl (by omega)
        rw [hpl] at hcall
        have HC := Lib.hid hcall
        have HST := Lib.hid hstep
        have hble := K.begTo_le T (K.piece bs p n) T.length
        clear hpart hpc hpl hstep hcall
        go_wp2_with fail
        refine HC.out.mono ?_
        rintro e w2 ⟨rfl, hk2⟩
        have HKE2 := Lib.hid (HKE.out.new hk2 (by simp [Fresh]))
        clear hk2
        have HST := Lib.hid HST.out
        generalize K.begTo T (K.piece bs p n) T.length = D at HST hble ⊢
        obtain ⟨many, is⟩ := D
        have hble2 : is < (T.length : Int) := hble.2.2
        have hble1 : many ≤ T.length := hble.1
        by_cases h0 : 0 ≤ is
        · have hR2 := HST.out
          rw [if_pos h0] at hR2
          have HR2 := Lib.hid hR2
          obtain ⟨j, rfl⟩ := Int.eq_ofNat_of_zero_le h0
          clear hR2 hble
          go_wp2_with fail
          go_ret3
          rw [HR2.out]
          exact ⟨by rfl, HKE2.out⟩
        · have hR2 := HST.out
          rw [if_neg h0] at hR2
          have h0b : decide ((0 : Int) ≤ is) = false := decide_eq_false h0
          by_cases hm : many = 0
          · rw [if_pos hm] at hR2
            have HR2 := Lib.hid hR2
            subst hm
            clear hR2 hble
            go_wp2_with fail
            go_ret3
            rw [HR2.out]
            exact ⟨by rfl, HKE2.out⟩
          · rw [if_neg hm] at hR2
            have HR2 := Lib.hid hR2
            have hmi : ((many : Int) == 0) = false := by simp; omega
            clear hR2 hble
            go_wp2_with fail
            go_roundg (21 - (n + 1))
            case measure => have := Hk.out; omega
            case rel => exact ⟨n + 1, by omega, by omega, rfl, by go_num, by rw [HR2.out, show 21 - (n + 1) = 20 - n by omega], HKE2.out⟩
    · obtain rfl : n = 21 := by omega
      have hR2 : R = (0, 0, 90) := HRN.out
      have HR2 := Lib.hid hR2
      clear hR2
      go_wp2_with fail
      go_ret3
      rw [HR2.out]
      exact ⟨by rfl, HKE.out⟩

/-- In All's loop. -/
def RAllI (w0 : World) (ls : List Nat) (bs : List Bool) (n e : Int) (R : List Nat × Nat × Nat) (k : Nat) (pv nv v : Value) (w : World) : Prop :=
  ∃ out p f nn, k = f ∧ pv = .int .i64 (p : Nat) ∧ nv = .int .i64 nn ∧ bs.length + 1 ≤ f + p ∧ p ≤ bs.length ∧ out.length ≤ p ∧
    ((nn = n ∧ R = K.allP ls bs n e f out p) ∨ (nn = (out.length : Int) ∧ R = (out, p, 0))) ∧ Row w 3 v (natVals out) ∧ Kept [] w0 w ∧ Fresh w0.heap.size (foot v)
end Go.Proofs.Ytdaenajhgbagdaa
