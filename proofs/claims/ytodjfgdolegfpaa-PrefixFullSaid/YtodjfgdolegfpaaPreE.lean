/-
  The walks of prefix's begins and next.
-/
import Derived.Test.YtodjfgdolegfpaaPreC
import Derived.Test.YtodjfgdolegfpaaPlainA
import Derived.Test.YtodjfgdolegfpaaAnyA
import Derived.Outline
namespace Go.Proofs.Ytodjfgdolegfpaa
open Go.RowKit
set_option linter.unusedVariables false
set_option linter.unusedSimpArgs false

/-- What is known of a table of lengths that may be. -/
structure TabOf (w : World) (g : Nat) (a : Option Addr) (cap : Nat) (xs : List Int) (ls : List Nat) (M : Nat) (dv : Value) : Prop where
  tab : Tab w g a xs.length cap ls (M + 1) dv
  sees : Sees w 1 a xs.length (intVals xs)
  max : maxL xs = (M : Int)
  good : K.goodL xs = true
  nats : K.natsOf xs = ls
  le : M ≤ 20
theorem TabOf.mk0 {w : World} {g : Nat} {a : Option Addr} {cap : Nat} {xs : List Int} {dv : Value} (h : Tab w g a xs.length cap (K.natsOf xs) ((maxL xs).toNat + 1) dv) (hs : Sees w 1 a xs.length (intVals xs)) (hok : K.goodL xs = true) :
    TabOf w g a cap xs (K.natsOf xs) (maxL xs).toNat dv := by
  have hin := ((K.lensOk_iff xs).1 (K.goodL_lens hok)).2
  have hM0 := (maxL_ge xs).1
  have hM := maxL_le xs 20 (by decide) (fun x hx => (hin x hx).2)
  exact ⟨h, hs, by omega, hok, rfl, by omega⟩
theorem TabOf.kept {S : List Nat} {w w' : World} {g : Nat} {a : Option Addr} {cap : Nat} {xs : List Int} {ls : List Nat} {M : Nat} {dv : Value} (h : TabOf w g a cap xs ls M dv) (hk : Kept S w w') (h1 : Apart (g :: foot dv) S) (h2 : Apart (footA a) S) :
    TabOf w' g a cap xs ls M dv := ⟨h.tab.kept hk h1, h.sees.kept hk h2, h.max, h.good, h.nats, h.le⟩
theorem TabOf.kept0 {w w' : World} {g : Nat} {a : Option Addr} {cap : Nat} {xs : List Int} {ls : List Nat} {M : Nat} {dv : Value} (h : TabOf w g a cap xs ls M dv) (hk : Kept [] w w') :
    TabOf w' g a cap xs ls M dv := h.kept hk (Apart.nil _) (Apart.nil _)
theorem TabOf.len {w : World} {g : Nat} {a : Option Addr} {cap : Nat} {xs : List Int} {ls : List Nat} {M : Nat} {dv : Value} (h : TabOf w g a cap xs ls M dv) : 2 ≤ xs.length ∧ xs.length ≤ 258 := ((K.lensOk_iff xs).1 (K.goodL_lens h.good)).1
theorem TabOf.top {w : World} {g : Nat} {a : Option Addr} {cap : Nat} {xs : List Int} {ls : List Nat} {M : Nat} {dv : Value} (h : TabOf w g a cap xs ls M dv) : ∀ x ∈ ls, 1 ≤ x ∧ x ≤ M := by
  intro x hx
  rw [← h.nats] at hx
  have h1 := (K.goodL_in h.good x hx).1
  simp only [K.natsOf, List.mem_map] at hx
  obtain ⟨y, hy, rfl⟩ := hx
  have := (maxL_ge xs).2 y hy
  rw [h.max] at this
  omega
theorem TabOf.none {w : World} {g : Nat} {a : Option Addr} {cap : Nat} {xs : List Int} {ls : List Nat} {M : Nat} {dv : Value} (h : TabOf w g a cap xs ls M dv) (m : Nat) (hm : M < m) : ls.count m = 0 := by
  rw [List.count_eq_zero]
  intro hx
  have := (h.top m hx).2
  omega
theorem TabOf.fits {w : World} {g : Nat} {a : Option Addr} {cap : Nat} {xs : List Int} {ls : List Nat} {M : Nat} {dv : Value} (h : TabOf w g a cap xs ls M dv) (n : Nat) (hn : n ≤ 20) : K.firstP ls n + ls.count n ≤ 1048576 := by
  have h1 := K.fits ls (fun x hx => Nat.le_trans (h.top x hx).2 h.le) (by rw [← h.nats]; exact K.goodL_room h.good) n hn
  have h2 : 2 ^ n ≤ 2 ^ 20 := Nat.pow_le_pow_right (by decide) hn
  exact Nat.le_trans h1 h2

/-- In begins' loop: no length below m has such a code. -/
def BegI (w0 : World) (ls : List Nat) (M c n : Nat) (k : Nat) (v : Value) (w : World) : Prop :=
  ∃ m, n < m ∧ m ≤ 22 ∧ (n < M → m ≤ M + 1) ∧ k = 23 - m ∧ v = .int .i64 (m : Nat) ∧ (∀ j, n < j → j < m → ¬ (0 < ls.count j ∧ c * 2 ^ (j - n) < K.firstP ls j + ls.count j)) ∧ Kept [] w0 w
set_option maxHeartbeats 1000000 in
theorem begins_any (g : Nat) (a : Option Addr) (cap : Nat) (xs : List Int) (ls : List Nat) (M : Nat) (dv : Value) (c n : Nat) (w : World) (h : TabOf w g a cap xs ls M dv) (hn : 1 ≤ n ∧ n ≤ 20) (hc : c < 2 ^ n) :
    Calls Try.prog 48 #[.pointer (some ⟨g, 0, none⟩), .int .i64 c, .int .i64 n] w fun e w' => e = .returned (.bool (K.beginsP ls c n)) ∧ Kept [] w w' := by
  have HT := Lib.hid h
  have HC := Lib.hid hc
  have hM := h.le
  have hl := h.len
  clear h hc
  go_enter Try.func48, Try.ntmps48
  go_wp2_with fail
  go_loopg [7] (23 - (n + 1)) (fun k v wr => BegI w ls M c n k v wr)
  case atStart => exact ⟨n + 1, by omega, by omega, by omega, rfl, by go_num, fun j h1 h2 => by omega, Kept.refl _ _⟩
  case round =>
    obtain ⟨m, hnm, hm, hmM, hk, rfl, hno, hkept⟩ := hrel
    have Hk := Lib.hid hk
    have HNO := Lib.hid hno
    have HKE := Lib.hid hkept
    have c0 := Tab.of (HT.out.kept0 hkept).tab.1
    have HMM := Lib.hid hmM
    clear hk hno hkept hmM
    go_wp2_with fail
    refine (longest_any a cap xs _ (HT.out.kept0 HKE.out).sees (by omega)).mono ?_
    rintro e w2 ⟨rfl, hk2⟩
    have HKE2 := Lib.hid (HKE.out.new hk2 (by simp [Fresh]))
    rw [HT.out.max]
    clear hk2 c0
    by_cases hlt : m ≤ M
    · have hmi : (m : Int) ≤ (M : Int) := by omega
      have hm22 : (m : Int) < 22 := by omega
      have hA := (HT.out.kept0 HKE2.out).tab.1
      have cc := Tab.count hA (tabUpto_length _ _) (tabUpto_length _ _) m (ls.count m) (by unfold tabC; rw [tabUpto_get _ _ _ (by omega), if_pos (by omega)])
      have cf := Tab.first hA m (K.firstP ls m) (by unfold tabF; rw [tabUpto_get _ _ _ (by omega), if_pos (by omega)])
      have hfit := HT.out.fits m (by omega)
      obtain ⟨t, ht⟩ : ∃ t, m - n = t := ⟨_, rfl⟩
      have hsub : IntKind.i64.wrap ((m : Int) - (n : Int)) = (t : Int) := by rw [IntWalk.i64_in _ (by omega)]; omega
      have ht20 : t ≤ 20 := by omega
      have hpw : (2 : Int) ^ t = ((2 ^ t : Nat) : Int) := by norm_cast
      have hz20 : c * 2 ^ t ≤ 1048576 := by
        have h1 : c * 2 ^ t ≤ 2 ^ n * 2 ^ t := Nat.mul_le_mul_right _ (Nat.le_of_lt HC.out)
        rw [← Nat.pow_add] at h1
        have h2 : 2 ^ (n + t) ≤ 2 ^ 20 := Nat.pow_le_pow_right (by decide) (by omega)
        exact Nat.le_trans h1 h2
      have hzz : (c : Int) * ((2 ^ t : Nat) : Int) = ((c * 2 ^ t : Nat) : Int) := by norm_cast
      have hiff : K.beginsP ls c n = true ↔ ∃ j, j ≤ 20 ∧ n < j ∧ 0 < ls.count j ∧ c * 2 ^ (j - n) < K.firstP ls j + ls.count j := K.beginsP_iff ls c n
      have HIFF := Lib.hid hiff
      have HT2 := Lib.hid ht
      generalize hzd : c * 2 ^ t = z at hz20 hzz
      have HZ := Lib.hid hzd
      generalize (2 : Nat) ^ t = p at hpw hzz
      obtain ⟨C, hC⟩ : ∃ C, ls.count m = C := ⟨_, rfl⟩
      obtain ⟨F, hF⟩ : ∃ F, K.firstP ls m = F := ⟨_, rfl⟩
      have HCC := Lib.hid hC
      have HFF := Lib.hid hF
      rw [hC] at cc hfit
      rw [hF] at cf hfit
      have hwz : IntKind.i64.wrap (z : Int) = (z : Int) := IntWalk.i64_in _ (by omega)
      have hws : IntKind.i64.wrap ((F : Int) + (C : Int)) = (F : Int) + (C : Int) := IntWalk.i64_in _ (by omega)
      clear hA hiff ht hzd hC hF
      rcases Nat.eq_zero_or_pos C with h0 | h0
      · subst h0
        go_wp2_with fail
        go_quiet (fail)
        go_wp2_with fail
        go_roundg (23 - (m + 1))
        case measure => have := Hk.out; omega
        case rel =>
          refine ⟨m + 1, by omega, by omega, fun _ => by omega, rfl, by go_num, fun j h1 h2 => ?_, HKE2.out.drewN _⟩
          rcases Nat.lt_or_ge j m with h | h
          · exact HNO.out j h1 h
          · obtain rfl : j = m := by omega
            rw [HCC.out]; omega
      · have hCi : (0 : Int) < (C : Int) := by omega
        by_cases hzl : z < F + C
        · have hzi : (z : Int) < (F : Int) + (C : Int) := by omega
          have hyes : K.beginsP ls c n = true := HIFF.out.2 ⟨m, by omega, hnm, by rw [HCC.out]; exact h0, by rw [HT2.out, HZ.out, HFF.out, HCC.out]; exact hzl⟩
          have HY := Lib.hid hyes
          clear hyes
          go_wp2_with fail
          go_quiet (fail)
          go_wp2_with fail
          go_ret
          exact ⟨by rw [HY.out]; rfl, HKE2.out.drewN _⟩
        · have hzi : ¬ (z : Int) < (F : Int) + (C : Int) := by omega
          have HZL := Lib.hid hzl
          clear hzl
          go_wp2_with fail
          go_quiet (fail)
          go_wp2_with fail
          go_roundg (23 - (m + 1))
          case measure => have := Hk.out; omega
          case rel =>
            refine ⟨m + 1, by omega, by omega, fun _ => by omega, rfl, by go_num, fun j h1 h2 => ?_, HKE2.out.drewN _⟩
            rcases Nat.lt_or_ge j m with h | h
            · exact HNO.out j h1 h
            · obtain rfl : j = m := by omega
              rw [HT2.out, HZ.out, HFF.out, HCC.out]
              exact fun h => HZL.out h.2
    · have hmi : ¬ (m : Int) ≤ (M : Int) := by omega
      have hnb : K.beginsP ls c n = false := by
        rcases Bool.eq_false_or_eq_true (K.beginsP ls c n) with h | h
        · obtain ⟨j, h1, h2, h3, h4⟩ := (K.beginsP_iff ls c n).1 h
          rcases Nat.lt_or_ge j m with hj | hj
          · exact absurd ⟨h3, h4⟩ (HNO.out j h2 hj)
          · have := HT.out.none j (by omega)
            omega
        · exact h
      have HB := Lib.hid hnb
      clear hnb
      go_wp2_with fail
      go_ret
      exact ⟨by rw [HB.out]; rfl, HKE2.out⟩
end Go.Proofs.Ytodjfgdolegfpaa
