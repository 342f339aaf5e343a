/-
  The walks of prefix's begins and next. The walk of prefix's next. The walks of prefix's All and Decode.
-/
import Derived.Test.YtdaenajhgbagdaaPreX
import Derived.Test.YtdaenajhgbagdaaPlainA
import Derived.Test.YtdaenajhgbagdaaJoinA
import Derived.Outline
namespace Go.Proofs.Ytdaenajhgbagdaa
open Go.RowKit
set_option linter.unusedVariables false
set_option linter.unusedSimpArgs false

/-- What is known of a table of lengths that may be. -/
structure TabOf (w : World) (g : Nat) (a : Option Addr) (cap : Nat) (xs : List Int) (ls : List Nat) (M : Nat) (dv : Value) : Prop where
  tab : Tab w g a xs.length cap ls (M + 1) dv
  sees : Sees w 1 a xs.length (intVals xs)
  max : maxL xs = (M : Int)
  good : K.goodL xs = true
  nats : K.natsOf xs = ls
  le : M ≤ 20
theorem TabOf.mk0 {w : World} {g : Nat} {a : Option Addr} {cap : Nat} {xs : List Int} {dv : Value} (h : Tab w g a xs.length cap (K.natsOf xs) ((maxL xs).toNat + 1) dv) (hs : Sees w 1 a xs.length (intVals xs)) (hok : K.goodL xs = true) :
    TabOf w g a cap xs (K.natsOf xs) (maxL xs).toNat dv := by
  have hin := ((K.lensOk_iff xs).1 (K.goodL_lens hok)).2
  have hM0 := (maxL_ge xs).1
  have hM := maxL_le xs 20 (by decide) (fun x hx => (hin x hx).2)
  exact ⟨h, hs, by omega, hok, rfl, by omega⟩
theorem TabOf.kept {S : List Nat} {w w' : World} {g : Nat} {a : Option Addr} {cap : Nat} {xs : List Int} {ls : List Nat} {M : Nat} {dv : Value} (h : TabOf w g a cap xs ls M dv) (hk : Kept S w w') (h1 : Apart (g :: foot dv) S) (h2 : Apart (footA a) S) :
    TabOf w' g a cap xs ls M dv := ⟨h.tab.kept hk h1, h.sees.kept hk h2, h.max, h.good, h.nats, h.le⟩
theorem TabOf.kept0 {w w' : World} {g : Nat} {a : Option Addr} {cap : Nat} {xs : List Int} {ls : List Nat} {M : Nat} {dv : Value} (h : TabOf w g a cap xs ls M dv) (hk : Kept [] w w') :
    TabOf w' g a cap xs ls M dv := h.kept hk (Apart.nil _) (Apart.nil _)
theorem TabOf.len {w : World} {g : Nat} {a : Option Addr} {cap : Nat} {xs : List Int} {ls : List Nat} {M : Nat} {dv : Value} (h : TabOf w g a cap xs ls M dv) : 2 ≤ xs.length ∧ xs.length ≤ 258 := ((K.lensOk_iff xs).1 (K.goodL_lens h.good)).1
theorem TabOf.top {w : World} {g : Nat} {a : Option Addr} {cap : Nat} {xs : List Int} {ls : List Nat} {M : Nat} {dv : Value} (h : TabOf w g a cap xs ls M dv) : ∀ x ∈ ls, 1 ≤ x ∧ x ≤ M := by
  intro x hx
  rw [← h.nats] at hx
  have h1 := (K.goodL_in h.good x hx).1
  simp only [K.natsOf, List.mem_map] at hx
  obtain ⟨y, hy, rfl⟩ := hx
  have := (maxL_ge xs).2 y hy
  rw [h.max] at this
  omega
theorem TabOf.none {w : World} {g : Nat} {a : Option Addr} {cap : Nat} {xs : List Int} {ls : List Nat} {M : Nat} {dv : Value} (h : TabOf w g a cap xs ls M dv) (m : Nat) (hm : M < m) : ls.count m = 0 := by
  rw [List.count_eq_zero]
  intro hx
  have := (h.top m hx).2
  omega
theorem TabOf.fits {w : World} {g : Nat} {a : Option Addr} {cap : Nat} {xs : List Int} {ls : List Nat} {M : Nat} {dv : Value} (h : TabOf w g a cap xs ls M dv) (n : Nat) (hn : n ≤ 20) : K.firstP ls n + ls.count n ≤ 1048576 := by
  have h1 := K.fits ls (fun x hx => Nat.le_trans (h.top x hx).2 h.le) (by rw [← h.nats]; exact K.goodL_room h.good) n hn
  have h2 : 2 ^ n ≤ 2 ^ 20 := Nat.pow_le_pow_right (by decide) hn
  exact Nat.le_trans h1 h2

/-- In begins' loop: no length below m has such a code. -/
def BegI (w0 : World) (ls : List Nat) (M c n : Nat) (k : Nat) (v : Value) (w : World) : Prop :=
  ∃ m, n < m ∧ m ≤ 22 ∧ (n < M → m ≤ M + 1) ∧ k = 23 - m ∧ v = .int .i64 (m : Nat) ∧ (∀ j, n < j → j < m → ¬ (0 < ls.count j ∧ c * 2 ^ (j - n) < K.firstP ls j + ls.count j)) ∧ Kept [] w0 w
set_option maxHeartbeats 1000000 in
theorem begins_any (g : Nat) (a : Option Addr) (cap : Nat) (xs : List Int) (ls : List Nat) (M : Nat) (dv : Value) (c n : Nat) (w : World) (h : TabOf w g a cap xs ls M dv) (hn : 1 ≤ n ∧ n ≤ 20) (hc : c < 2 ^ n) :
    Calls Try.prog 102 #[.pointer (some ⟨g, 0, none⟩), .int .i64 c, .int .i64 n] w fun e w' => e = .returned (.bool (K.beginsP ls c n)) ∧ Kept [] w w' := by
  have HT := Lib.hid h
  have HC := Lib.hid hc
  have hM := h.le
  have hl := h.len
  clear h hc
  go_enter Try.func102, Try.ntmps102
  go_wp2_with fail
  go_loopg [7] (23 - (n + 1)) (fun k v wr => BegI w ls M c n k v wr)
  case atStart => exact ⟨n + 1, by omega, by omega, by omega, rfl, by go_num, fun j h1 h2 => by omega, Kept.refl _ _⟩
  case round =>
    obtain ⟨m, hnm, hm, hmM, hk, rfl, hno, hkept⟩ := hrel
    have Hk := Lib.hid hk
    have HNO := Lib.hid hno
    have HKE := Lib.hid hkept
    have c0 := Tab.of (HT.out.kept0 hkept).tab.1
    have HMM := Lib.hid hmM
    clear hk hno hkept hmM
    go_wp2_with fail
    refine (longest_any a cap xs _ (HT.out.kept0 HKE.out).sees (by omega)).mono ?_
    rintro e w2 ⟨rfl, hk2⟩
    have HKE2 := Lib.hid (HKE.out.new hk2 (by simp [Fresh]))
    rw [HT.out.max]
    clear hk2 c0
    by_cases hlt : m ≤ M
    · have hmi : (m : Int) ≤ (M : Int) := by omega
      have hm22 : (m : Int) < 22 := by omega
      have hA := (HT.out.kept0 HKE2.out).tab.1
      have cc := Tab.count hA (tabUpto_length _ _) (tabUpto_length _ _) m (ls.count m) (by unfold tabC; rw [tabUpto_get _ _ _ (by omega), if_pos (by omega)])
      have cf := Tab.first hA m (K.firstP ls m) (by unfold tabF; rw [tabUpto_get _ _ _ (by omega), if_pos (by omega)])
      have hfit := HT.out.fits m (by omega)
      obtain ⟨t, ht⟩ : ∃ t, m - n = t := ⟨_, rfl⟩
      have hsub : IntKind.i64.wrap ((m : Int) - (n : Int)) = (t : Int) := by rw [IntWalk.i64_in _ (by omega)]; omega
      have ht20 : t ≤ 20 := by omega
      have hpw : (2 : Int) ^ t = ((2 ^ t : Nat) : Int) := by norm_cast
      have hz20 : c * 2 ^ t ≤ 1048576 := by
        have h1 : c * 2 ^ t ≤ 2 ^ n * 2 ^ t := Nat.mul_le_mul_right _ (Nat.le_of_lt HC.out)
        rw [← Nat.pow_add] at h1
        have h2 : 2 ^ (n + t) ≤ 2 ^ 20 := Nat.pow_le_pow_right (by decide) (by omega)
        exact Nat.le_trans h1 h2
      have hzz : (c : Int) * ((2 ^ t : Nat) : Int) = ((c * 2 ^ t : Nat) : Int) := by norm_cast
      have hiff : K.beginsP ls c n = true ↔ ∃ j, j ≤ 20 ∧ n < j ∧ 0 < ls.count j ∧ c * 2 ^ (j - n) < K.firstP ls j + ls.count j := K.beginsP_iff ls c n
      have HIFF := Lib.hid hiff
      have HT2 := Lib.hid ht
      generalize hzd : c * 2 ^ t = z at hz20 hzz
      have HZ := Lib.hid hzd
      generalize (2 : Nat) ^ t = p at hpw hzz
      obtain ⟨C, hC⟩ : ∃ C, ls.count m = C := ⟨_, rfl⟩
      obtain ⟨F, hF⟩ : ∃ F, K.firstP ls m = F := ⟨_, rfl⟩
      have HCC := Lib.hid hC
      have HFF := Lib.hid hF
      rw [hC] at cc hfit
      rw [hF] at cf hfit
      have hwz : IntKind.i64.wrap (z : Int) = (z : Int) := IntWalk.i64_in _ (by omega)
      have hws : IntKind.i64.wrap ((F : Int) + (C : Int)) = (F : Int) + (C : Int) := IntWalk.i64_in _ (by omega)
      clear hA hiff ht hzd hC hF
      rcases Nat.eq_zero_or_pos C with h0 | h0
      · subst h0
        go_wp2_with fail
        go_quiet (fail)
        go_wp2_with fail
        go_roundg (23 - (m + 1))
        case measure => have := Hk.out; omega
        case rel =>
          refine ⟨m + 1, by omega, by omega, fun _ => by omega, rfl, by go_num, fun j h1 h2 => ?_, HKE2.out.drewN _⟩
          rcases Nat.lt_or_ge j m with h | h
          · exact HNO.out j h1 h
          · obtain rfl : j = m := by omega
            rw [HCC.out]; omega
      · have hCi : (0 : Int) < (C : Int) := by omega
        by_cases hzl : z < F + C
        · have hzi : (z : Int) < (F : Int) + (C : Int) := by omega
          have hyes : K.beginsP ls c n = true := HIFF.out.2 ⟨m, by omega, hnm, by rw [HCC.out]; exact h0, by rw [HT2.out, HZ.out, HFF.out, HCC.out]; exact hzl⟩
          have HY := Lib.hid hyes
          clear hyes
          go_wp2_with fail
          go_quiet (fail)
          go_wp2_with fail
          go_ret
          exact ⟨by rw [HY.out]; rfl, HKE2.out.drewN _⟩
        · have hzi : ¬ (z : Int) < (F : Int) + (C : Int) := by omega
          have HZL := Lib.hid hzl
          clear hzl
          go_wp2_with fail
          go_quiet (fail)
          go_wp2_with fail
          go_roundg (23 - (m + 1))
          case measure => have := Hk.out; omega
          case rel =>
            refine ⟨m + 1, by omega, by omega, fun _ => by omega, rfl, by go_num, fun j h1 h2 => ?_, HKE2.out.drewN _⟩
            rcases Nat.lt_or_ge j m with h | h
            · exact HNO.out j h1 h
            · obtain rfl : j = m := by omega
              rw [HT2.out, HZ.out, HFF.out, HCC.out]
              exact fun h => HZL.out h.2
    · have hmi : ¬ (m : Int) ≤ (M : Int) := by omega
      have hnb : K.beginsP ls c n = false := by
        rcases Bool.eq_false_or_eq_true (K.beginsP ls c n) with h | h
        · obtain ⟨j, h1, h2, h3, h4⟩ := (K.beginsP_iff ls c n).1 h
          rcases Nat.lt_or_ge j m with hj | hj
          · exact absurd ⟨h3, h4⟩ (HNO.out j h2 hj)
          · have := HT.out.none j (by omega)
            omega
        · exact h
      have HB := Lib.hid hnb
      clear hnb
      go_wp2_with fail
      go_ret
      exact ⟨by rw [HB.out]; rfl, HKE2.out⟩
end Go.Proofs.Ytdaenajhgbagdaa
namespace Go.Proofs.Ytdaenajhgbagdaa
open Go.RowKit
set_option linter.unusedVariables false
set_option linter.unusedSimpArgs false

/-- What next leaves. -/
def NextPost (R : Nat × Nat × Nat) (r q : Nat) (s : ByteArray) (w : World) (e : Ending) (w' : World) : Prop :=
  e = .returned (.tuple #[.int .i64 (R.1 : Nat), .int .i64 (R.2.2 : Nat)]) ∧ (R.2.2 = 0 → Rd w' r q s R.2.1) ∧ Kept [r] w w'
/-- In its loop: n bits are to be read next. -/
def NextI (w0 : World) (ls : List Nat) (r q : Nat) (s : ByteArray) (R : Nat × Nat × Nat) (k : Nat) (cv nv : Value) (w : World) : Prop :=
  ∃ n code p, 1 ≤ n ∧ n ≤ 20 ∧ k = 21 - n ∧ nv = .int .i64 (n : Nat) ∧ cv = .int .i64 (code : Nat) ∧ code < 2 ^ (n - 1) ∧ p ≤ 8 * s.size ∧ R = K.nextP ls (K.bitsOf s.data.toList) (21 - n) n code p ∧ Rd w r q s p ∧ Kept [r] w0 w
theorem takeR_1 (bs : List Bool) (p : Nat) (h : p < bs.length) : K.takeR bs p 1 = ((bs.getD p false).toNat, 0) := by
  unfold K.takeR
  rw [if_neg (by omega), if_neg (by simp; omega)]
  have := K.num_piece bs p 0 (by omega)
  rw [show (1 : Int).toNat = 0 + 1 from rfl, this, K.piece_zero]
  simp [K.num]
theorem takeR_1_short (bs : List Bool) (p : Nat) (h : bs.length ≤ p) : K.takeR bs p 1 = (0, 10) := by
  unfold K.takeR
  rw [if_neg (by omega), if_pos (by simp; omega)]
theorem i64_or1 (c b : Nat) (hc : c < 4611686018427387904) (hb : b ≤ 1) : bits BinOp.or IntKind.i64 ((c : Int) * 2) (b : Int) = ((2 * c + b : Nat) : Int) := by
  have hor : 2 * c ||| b = 2 * c + b := (Nat.two_pow_add_eq_or_of_lt (i := 1) (b := b) (by omega) c).symm
  have hx : 2 * c ||| b < 2 ^ 63 := by rw [hor]; omega
  rw [show (c : Int) * 2 = ((2 * c : Nat) : Int) by omega]
  show IntKind.i64.wrap ((BitVec.ofInt 64 ((2 * c : Nat) : Int) ||| BitVec.ofInt 64 (b : Int)).toNat : Int) = _
  rw [BitVec.toNat_or, ofInt_u64 _ (by omega), ofInt_u64 b (by omega), IntKind.wrap_i64, hor]
  omega

set_option maxHeartbeats 2000000 in
theorem next_any (g : Nat) (a : Option Addr) (cap : Nat) (xs : List Int) (ls : List Nat) (M : Nat) (dv : Value) (r q p : Nat) (s : ByteArray) (w : World) (h : TabOf w g a cap xs ls M dv) (hr : Rd w r q s p) (hp : p ≤ 8 * s.size) (hs : s.size ≤ 140737488351232)
    (ha : Apart (g :: foot dv) [r]) (ha2 : Apart (footA a) [r]) :
    Calls Try.prog 84 #[.pointer (some ⟨g, 0, none⟩), .pointer (some ⟨r, 0, none⟩)] w (NextPost (K.nextR ls (K.bitsOf s.data.toList) p) r q s w) := by
  have HT := Lib.hid h
  have HR := Lib.hid hr
  have HA := Lib.hid ha
  have HA2 := Lib.hid ha2
  have hM := h.le
  have hl := h.len
  have HBL := Lib.hid (bitsOf_len s)
  clear h hr ha ha2
  obtain ⟨R, hR⟩ : ∃ R, K.nextR ls (K.bitsOf s.data.toList) p = R := ⟨_, rfl⟩
  have HRR := Lib.hid hR
  rw [hR]
  clear hR
  go_enter Try.func84, Try.ntmps84
  go_wp2_with fail
  go_loopg [6, 7] 20 (fun k cv nv wr => NextI w ls r q s R k cv nv wr)
  case atStart => exact ⟨1, 0, p, by omega, by omega, by omega, rfl, rfl, by decide, hp, HRR.out.symm, HR.out, Kept.refl _ _⟩
  case round =>
    obtain ⟨n, code, p2, hn1, hn, hk, rfl, rfl, hcd, hp2, hRn, hrd, hkept⟩ := hrel
    have Hk := Lib.hid hk
    have HRN := Lib.hid hRn
    have HRD := Lib.hid hrd
    have HKE := Lib.hid hkept
    have hpn : 2 ^ (n - 1) ≤ 2 ^ 19 := Nat.pow_le_pow_right (by decide) (by omega)
    have hcode : code < 524288 := Nat.lt_of_lt_of_le hcd hpn
    have HCD := Lib.hid hcd
    clear hk hRn hrd hkept hcd hpn
    go_wp2_with fail
    refine (take_any r q s p2 1 _ HRD.out (by omega) hp2).mono ?_
    rintro e w2 ⟨rfl, hrd2, hk2⟩
    have HKE2 := Lib.hid (HKE.out.trans hk2 (fun x hx => .inl hx))
    by_cases hsh : 8 * s.size ≤ p2
    · have hT := takeR_1_short (K.bitsOf s.data.toList) p2 (by rw [HBL.out]; exact hsh)
      have hR2 : R = (0, 0, 10) := by
        rw [HRN.out, show 21 - n = (20 - n) + 1 by omega, K.nextP, if_pos (by rw [HBL.out]; omega)]
      have HR2 := Lib.hid hR2
      rw [hT]
      clear hT hR2 hrd2 hk2
      go_wp2_with fail
      go_ret2
      rw [HR2.out]
      exact ⟨rfl, (fun h => by cases h), HKE2.out⟩
    · have hT := takeR_1 (K.bitsOf s.data.toList) p2 (by rw [HBL.out]; omega)
      rw [hT] at hrd2 ⊢
      have hrd2 : Rd w2 r q s (p2 + 1) := hrd2
      have hstep : R = (if K.firstP ls n ≤ 2 * code + ((K.bitsOf s.data.toList).getD p2 false).toNat ∧ 2 * code + ((K.bitsOf s.data.toList).getD p2 false).toNat < K.firstP ls n + ls.count n then
          ((K.orderTo ls 21).getD ((K.orderTo ls n).length + (2 * code + ((K.bitsOf s.data.toList).getD p2 false).toNat - K.firstP ls n)) 0, p2 + 1, 0)
        else if K.beginsP ls (2 * code + ((K.bitsOf s.data.toList).getD p2 false).toNat) n then K.nextP ls (K.bitsOf s.data.toList) (20 - n) (n + 1) (2 * code + ((K.bitsOf s.data.toList).getD p2 false).toNat) (p2 + 1) else (0, 0, 90)) := by
        rw [HRN.out, show 21 - n = (20 - n) + 1 by omega, K.nextP, if_neg (by rw [HBL.out]; omega)]
      obtain ⟨b, hb⟩ : ∃ b, ((K.bitsOf s.data.toList).getD p2 false).toNat = b := ⟨_, rfl⟩
      have hb1 : b ≤ 1 := by rw [← hb]; exact Bool.toNat_le _
      rw [hb] at hstep ⊢
      have hor := i64_or1 code b (by omega) hb1
      have hwb : IntKind.i64.wrap (b : Int) = (b : Int) := IntWalk.i64_in _ (by omega)
      obtain ⟨c, hc⟩ : ∃ c, 2 * code + b = c := ⟨_, rfl⟩
      rw [hc] at hstep hor
      have hc20 : c < 2 ^ n := by
        have := HCD.out
        have e : 2 ^ n = 2 * 2 ^ (n - 1) := by rw [show n = (n - 1) + 1 by omega, Nat.pow_succ, Nat.add_sub_cancel]; omega
        omega
      have hcm : c ≤ 1048576 := by omega
      have HC20 := Lib.hid hc20
      have HST := Lib.hid hstep
      have HRD2 := Lib.hid hrd2
      have hTw := HT.out.kept HKE2.out HA.out HA2.out
      have HTW := Lib.hid hTw
      have hfit := hTw.fits n (by omega)
      have hfn := hTw.fits (n - 1) (by omega)
      have hcz : M < n → ls.count n = 0 := hTw.none n
      have HCZ := Lib.hid hcz
      obtain ⟨C, hC⟩ : ∃ C, ls.count n = C := ⟨_, rfl⟩
      obtain ⟨F, hF⟩ : ∃ F, K.firstP ls n = F := ⟨_, rfl⟩
      have cc := Tab.count hTw.tab.1 (tabUpto_length _ _) (tabUpto_length _ _) n C (by
        unfold tabC
        rw [tabUpto_get _ _ _ (by omega)]
        by_cases hnM : n < M + 1
        · rw [if_pos ⟨hn1, hnM⟩, hC]
        · rw [if_neg (by omega)]; have := hcz (by omega); simp; omega)
      obtain ⟨F', hF', hFF⟩ : ∃ F', (tabF ls (M + 1))[n]? = some F' ∧ (0 < C → F' = F) ∧ F' ≤ 1048576 := by
        unfold tabF
        rw [tabUpto_get _ _ _ (by omega)]
        refine ⟨_, rfl, fun h => ?_, ?_⟩
        · rw [if_pos ⟨hn1, by have := hcz; omega⟩, hF]
        · split <;> omega
      have cf := Tab.first hTw.tab.1 n F' hF'
      rw [hC, hF] at hstep hfit
      have hn22 : (n : Int) < 22 := by omega
      have hkw : IntKind.i64.wrap ((c : Int) - (F' : Int)) = (c : Int) - (F' : Int) := IntWalk.i64_in _ (by omega)
      have HFF := Lib.hid hFF
      have HCX := Lib.hid hC
      have HFX := Lib.hid hF
      have HST := Lib.hid hstep
      clear hstep hTw hcz hF' hfn hrd2 hk2 hT hc hb hc20 hC hF
      by_cases hA : F ≤ c ∧ c < F + C
      · have h0 : 0 < C := by omega
        obtain rfl : F' = F := HFF.out.1 h0
        obtain ⟨i, hi, hli, hci, hix⟩ := K.code_has ls n c (by rw [HFX.out]; exact hA.1) (by rw [HFX.out, HCX.out]; exact hA.2)
        rw [HFX.out] at hix
        have hnM : n < M + 1 := by
          rcases Nat.lt_or_ge n (M + 1) with h | h
          · exact h
          · have := HCZ.out (by omega)
            have := HCX.out
            omega
        have ho1 := K.orderTo_get ls n (M + 1) _ i hnM hix
        have ho2 := K.orderTo_get ls n 21 _ i (by omega) hix
        have hRA : R = (i, p2 + 1, 0) := by
          rw [HST.out, if_pos hA, List.getD, ho2, Option.getD_some]
        have HRA := Lib.hid hRA
        have hrow := HTW.out.tab.2.1
        obtain ⟨av, cv, hv, -, -, -, -⟩ := hrow.sees
        rw [natVals_length] at hv
        subst hv
        have hsee := hrow.seeA
        have hol := (List.getElem?_eq_some_iff.1 ho1).1
        obtain ⟨bo, oo, rfl, hcells⟩ := hsee.at (by rw [natVals_length]; omega)
        have c3 := hcells _ _ (nat_get _ _ _ ho1)
        have c1 := Tab.order HTW.out.tab.1
        have cb := Tab.begin HTW.out.tab.1 (tabUpto_length _ _) n (K.orderTo ls n).length (by unfold tabB; rw [tabUpto_get _ _ _ (by omega), if_pos (by omega)])
        have hO6 : (K.orderTo ls (M + 1)).length ≤ 6000 := by
          have h1 := orderTo_len ls (M + 1)
          have h2 : ls.length ≤ 258 := by rw [← HT.out.nats, K.natsOf_length]; exact hl.2
          have := Nat.mul_le_mul (show M + 1 ≤ 21 by omega) h2
          omega
        obtain ⟨D, hD⟩ : ∃ D, c - F' = D := ⟨_, rfl⟩
        have hkd : (c : Int) - (F' : Int) = (D : Int) := by omega
        rw [hD] at c3 hol
        rw [hkd] at hkw
        have hDC : D < C := by omega
        have hDCi : (D : Int) < (C : Int) := by omega
        generalize (K.orderTo ls n).length = Bn at c3 cb hol
        generalize (K.orderTo ls (M + 1)).length = On at c1 hol hO6
        have hwx : IntKind.i64.wrap ((Bn : Int) + (D : Int)) = (Bn : Int) + (D : Int) := IntWalk.i64_in _ (by omega)
        have hx0 : (0 : Int) ≤ (Bn : Int) + (D : Int) := by omega
        have hx1 : (Bn : Int) + (D : Int) < (On : Int) := by omega
        have hx2 : ((Bn : Int) + (D : Int)).toNat = Bn + D := by omega
        have hCi : (0 : Int) < (C : Int) := by omega
        clear hA hi hli hci hix ho1 ho2 hRA hrow hsee hcells hD hnM
        go_wp2_with fail
        go_quiet (fail)
        go_wp2_with fail
        go_ret2
        rw [HRA.out]
        exact ⟨rfl, fun _ => HRD2.out, HKE2.out.drewN _⟩
      · have hRB : R = if K.beginsP ls c n then K.nextP ls (K.bitsOf s.data.toList) (20 - n) (n + 1) c (p2 + 1) else (0, 0, 90) := by
          rw [HST.out, if_neg hA]
        have HRB := Lib.hid hRB
        have hor3 : C = 0 ∨ (0 < C ∧ c < F) ∨ (0 < C ∧ F + C ≤ c) := by omega
        clear hRB hA
        rcases hor3 with h0 | ⟨h0, h1⟩ | ⟨h0, h1⟩
        case' inl =>
          subst h0
          clear HFF
          go_wp2_with fail
        case' inr.inl =>
          obtain rfl : F' = F := HFF.out.1 h0
          have hCi : (0 : Int) < (C : Int) := by omega
          have hneg : ¬ (0 : Int) ≤ (c : Int) - (F' : Int) := by omega
          have hlt0 : (c : Int) - (F' : Int) < 0 := by omega
          go_wp2_with fail
        case' inr.inr =>
          obtain rfl : F' = F := HFF.out.1 h0
          have hCi : (0 : Int) < (C : Int) := by omega
          have hneg : (0 : Int) ≤ (c : Int) - (F' : Int) := by omega
          have hge : ¬ (c : Int) - (F' : Int) < (C : Int) := by omega
          go_wp2_with fail
        all_goals
          refine (begins_any g a cap xs ls M dv c n _ (by exact HTW.out) ⟨hn1, hn⟩ HC20.out).mono ?_
          rintro e w3 ⟨rfl, hk3⟩
          have HK3 := Lib.hid (HKE2.out.trans hk3 (by simp))
          have HRD3 := Lib.hid (HRD2.out.kept hk3 (Apart.nil _))
          clear hk3
          rcases Bool.eq_false_or_eq_true (K.beginsP ls c n) with hb | hb
          · have hR3 := HRB.out
            rw [hb, if_pos rfl] at hR3
            have HR3 := Lib.hid hR3
            have hn20 : n < 20 := by
              obtain ⟨m, h1, h2, -⟩ := (K.beginsP_iff ls c n).1 hb
              omega
            rw [hb]
            clear hb hR3
            go_wp2_with fail
            go_roundg (21 - (n + 1))
            case measure => have := Hk.out; omega
            case rel => exact ⟨n + 1, c, p2 + 1, by omega, by omega, rfl, by go_num, rfl, by rw [Nat.add_sub_cancel]; exact HC20.out, by omega, by rw [HR3.out, show 21 - (n + 1) = 20 - n by omega], HRD3.out, HK3.out⟩
          · have hR3 := HRB.out
            rw [hb, if_neg (by decide)] at hR3
            have HR3 := Lib.hid hR3
            rw [hb]
            clear hb hR3
            go_wp2_with fail
            go_ret2
            rw [HR3.out]
            exact ⟨rfl, (fun h => by cases h), HK3.out⟩
end Go.Proofs.Ytdaenajhgbagdaa
namespace Go.Proofs.Ytdaenajhgbagdaa
open Go.RowKit
set_option linter.unusedVariables false
set_option linter.unusedSimpArgs false

/-- What a function leaves that answers a list, a place and an error. -/
def NatsAtPost (R : List Nat × Nat × Nat) (w : World) (e : Ending) (w' : World) : Prop :=
  ∃ a c, e = .returned (.tuple #[.slice a R.1.length c, .int .i64 (R.2.1 : Nat), .int .i64 (R.2.2 : Nat)]) ∧ Row w' 3 (.slice a R.1.length c) (natVals R.1) ∧ Kept [] w w' ∧ Fresh w.heap.size (footA a)
theorem NatsAtPost.err {w w' : World} {e : Ending} {x : Nat} (he : e = .returned (.tuple #[.slice none 0 0, .int .i64 0, .int .i64 (x : Nat)])) (hk : Kept [] w w') : NatsAtPost ([], 0, x) w e w' :=
  ⟨none, 0, he, Row.nil _ _, hk, by simp [Fresh, footA]⟩
theorem NatsAtPost.ok {w w' : World} {e : Ending} {l : List Nat} {p : Nat} {a : Option Addr} {c : Nat} (he : e = .returned (.tuple #[.slice a l.length c, .int .i64 (p : Nat), .int .i64 0])) (hr : Row w' 3 (.slice a l.length c) (natVals l)) (hk : Kept [] w w')
    (hf : Fresh w.heap.size (foot (.slice a l.length c))) : NatsAtPost (l, p, 0) w e w' :=
  ⟨a, c, he, hr, hk, by rw [← foot_slice a l.length c]; exact hf⟩

theorem NatsAtPost.ok2 {w w' : World} {e : Ending} {l : List Nat} {p n : Nat} {a : Option Addr} {c : Nat} (hn : l.length = n) (he : e = .returned (.tuple #[.slice a n c, .int .i64 (p : Nat), .int .i64 0])) (hr : Row w' 3 (.slice a l.length c) (natVals l)) (hk : Kept [] w w')
    (hf : Fresh w.heap.size (foot (.slice a l.length c))) : NatsAtPost (l, p, 0) w e w' := by
  subst hn
  exact NatsAtPost.ok he hr hk hf

/-- In All's loop. -/
def AllI (w0 : World) (g : Nat) (a : Option Addr) (cap : Nat) (xs : List Int) (ls : List Nat) (M : Nat) (dv : Value) (r q : Nat) (s : ByteArray) (n e : Int) (R : List Nat × Nat × Nat) (k : Nat) (v : Value) (w : World) : Prop :=
  ∃ out p f, k = f ∧ 8 * s.size + 1 ≤ f + p ∧ p ≤ 8 * s.size ∧ out.length ≤ p ∧ R = K.allP ls (K.bitsOf s.data.toList) n e f out p ∧ Row w 3 v (natVals out) ∧ Rd w r q s p ∧ TabOf w g a cap xs ls M dv ∧
    Apart (g :: foot dv) [r, q] ∧ Apart (g :: foot dv) (foot v) ∧ Apart (foot v) [r, q] ∧ Kept [] w0 w ∧ Fresh w0.heap.size (foot v) ∧ Fresh w0.heap.size [r, q]

set_option maxHeartbeats 2000000 in
theorem all_wide (a : Option Addr) (cap : Nat) (xs : List Int) (s : ByteArray) (at_ n en : Int) (w : World) (h : Sees w 1 a xs.length (intVals xs)) (hlen : xs.length ≤ 140737488351232) (hs : s.size ≤ 140737488351232) (hsn : s.size ≤ 1000000000 ∨ n ≤ 1000000000) :
    Calls Try.prog 48 #[.slice a xs.length cap, .string s, .int .i64 at_, .int .i64 n, .int .i64 en] w (NatsAtPost (K.allR xs (K.bitsOf s.data.toList) at_ n en) w) := by
  have HS := Lib.hid h
  have HSN := Lib.hid hsn
  clear hsn
  have HBL := Lib.hid (bitsOf_len s)
  rcases Bool.eq_false_or_eq_true (K.goodL xs) with hok | hok
  · have HOK := Lib.hid hok
    have HAlt := Lib.hid (h.lt (by rw [intVals_length]; have := ((K.lensOk_iff xs).1 (K.goodL_lens hok)).1; omega))
    clear h hok
    go_enter Try.func48, Try.ntmps48
    go_wp2_with fail
    refine (made_ok a cap xs _ HS.out HOK.out).mono ?_
    rintro e w1 ⟨g, dv, rfl, ht, hk1, hf1⟩
    have HK1 := Lib.hid hk1
    have HF1 := Lib.hid hf1
    have HT := Lib.hid (TabOf.mk0 ht (HS.out.kept0 hk1) HOK.out)
    clear hk1 ht hf1
    go_wp2_with fail
    by_cases hat : at_ < 0 ∨ (8 * s.size : Nat) < at_
    · have hR : K.allR xs (K.bitsOf s.data.toList) at_ n en = ([], 0, 2) := by
        unfold K.allR; rw [HOK.out, if_pos rfl, if_pos (by rw [HBL.out]; omega)]
      have HR := Lib.hid hR
      refine (newReader_no s at_ _ (by omega) hat).mono ?_
      rintro e w2 ⟨rfl, rfl⟩
      clear hR hat
      go_wp2_with fail
      go_ret3
      rw [HR.out]
      exact NatsAtPost.err (by rfl) (HK1.out.alloc _)
    · obtain ⟨at_, rfl⟩ := Int.eq_ofNat_of_zero_le (show 0 ≤ at_ by omega)
      have hal : at_ ≤ 8 * s.size := by omega
      clear hat
      refine (newReader_new s at_ _ (by omega) (by omega) (by omega)).mono ?_
      rintro e w2 ⟨r, q, rfl, hrd, hk2, hf2⟩
      rw [Int.toNat_natCast] at hrd
      have HK2 := Lib.hid (HK1.out.new hk2 (by simp [Fresh]))
      have HRD := Lib.hid hrd
      have HT2 := Lib.hid (HT.out.kept0 hk2)
      have HF2 := Lib.hid (hf2.mono HK1.out.size)
      have hap : Apart (g :: foot dv) [r, q] := fun x hx hm => by
        have h1 := HT.out.tab.lt x hx
        have h2 := hf2 x hm
        omega
      have HAP := Lib.hid hap
      clear hrd hk2 hf2 hap
      by_cases hn : n < 0
      · have hR : K.allR xs (K.bitsOf s.data.toList) (at_ : Int) n en = ([], 0, 2) := by
          unfold K.allR; rw [HOK.out, if_pos rfl, if_pos (.inr (.inr hn))]
        have HR := Lib.hid hR
        have g1 : decide (n < 0) = true := decide_eq_true hn
        clear hR
        go_wp2_with fail
        go_ret3
        rw [HR.out]
        exact NatsAtPost.err (by rfl) HK2.out
      · have g1 : decide (n < 0) = false := decide_eq_false hn
        obtain ⟨R, hRd⟩ : ∃ R, K.allR xs (K.bitsOf s.data.toList) (at_ : Int) n en = R := ⟨_, rfl⟩
        have hR : R = K.allP (K.natsOf xs) (K.bitsOf s.data.toList) n en (8 * s.size + 1) [] at_ := by
          rw [← hRd]; unfold K.allR; rw [HOK.out, if_pos rfl, if_neg (by rw [HBL.out]; omega), HBL.out, Int.toNat_natCast]
        have HRD2 := Lib.hid hRd
        have HR := Lib.hid hR
        clear hR hRd
        generalize K.natsOf xs = ls at HT HT2 HR
        generalize (maxL xs).toNat = M at HT HT2
        go_wp2_with fail
        go_loopg [16] (8 * s.size + 1) (fun k v wr => AllI w g a cap xs ls M dv r q s n en R k v wr)
        case atStart => exact ⟨[], at_, _, rfl, by omega, hal, by simp, HR.out, Row.nil _ _, HRD.out, HT2.out, HAP.out, Apart.nil _, by simp [Apart, foot, Value.ownBlock], HK2.out, by simp [Fresh, foot, Value.ownBlock], HF2.out⟩
        case round =>
          obtain ⟨out, p, f, hkf, hfu, hp, hol, hRR, hrow, hrd, htab, hap1, hap2, hap3, hkept, hfr, hfrq⟩ := hrel
          have HRR := Lib.hid hRR
          have HROW := Lib.hid hrow
          have HRD3 := Lib.hid hrd
          have HTB := Lib.hid htab
          have HA1 := Lib.hid hap1
          have HA2 := Lib.hid hap2
          have HA3 := Lib.hid hap3
          have HKE := Lib.hid hkept
          have HFR := Lib.hid hfr
          have HFQ := Lib.hid hfrq
          obtain ⟨f, rfl⟩ : ∃ f', f = f' + 1 := ⟨f - 1, by omega⟩
          have Hk := Lib.hid hkf
          clear hkf
          obtain ⟨av, cv, hv, -, -, -, -⟩ := hrow.sees
          rw [natVals_length] at hv
          subst hv
          clear hRR hrow hrd htab hap1 hap2 hap3 hkept hfr hfrq
          by_cases hlt : (out.length : Int) < n
          · have hap4 : Apart (footA a) [r] := fun x hx hm => by
              have h1 := HAlt.out x hx
              have h2 := HFQ.out x (by simp at hm; simp [hm])
              omega
            go_wp2_with fail
            refine (next_any g a cap xs ls M dv r q p s _ HTB.out HRD3.out hp hs (HA1.out.symm.sub (by simp)).symm hap4).mono ?_
            rintro e w3 ⟨rfl, hrd3, hk3⟩
            have hkk3 : Kept [] w w3 := HKE.out.new hk3 (fun x hx => HFQ.out x (by simp at hx; simp [hx]))
            have HKE3 := Lib.hid hkk3
            by_cases hz : (K.nextR ls (K.bitsOf s.data.toList) p).2.2 = 0
            · obtain ⟨x, tt, hnx⟩ : ∃ x tt, K.nextR ls (K.bitsOf s.data.toList) p = (x, tt, 0) := ⟨_, _, by rw [← hz]⟩
              have hto := K.nextR_to ls _ p hz
              rw [HBL.out] at hto
              have hrd3 := hrd3 hz
              rw [hnx] at hto hrd3 ⊢
              have hto : p < tt ∧ tt ≤ 8 * s.size := hto
              have hrd3 : Rd w3 r q s tt := hrd3
              have hrow3 := HROW.out.kept hk3 (fun y hy h => HA3.out y hy (by simp at h; simp [h]))
              have htb3 := HTB.out.kept hk3 (HA1.out.symm.sub (by simp)).symm hap4
              have L1 : (natVals out).length + 1 ≤ maxLen := by rw [natVals_length]; simp only [maxLen]; have := HSN.out; omega
              have L2 : ((natVals out).length + 1) * 8 ≤ 140737488355328 := by rw [natVals_length]; have := HSN.out; omega
              have HNX := Lib.hid hnx
              have HRD4 := Lib.hid hrd3
              have HTB3 := Lib.hid htb3
              have HA4 := Lib.hid hap4
              have hz3 := hk3.size
              clear hnx hz hrd3 hk3 hkk3 htb3 hap4
              by_cases hxe : (x : Int) = en
              · have hR6 := HRR.out
                rw [K.allP_end ls _ n en f out p x tt hlt HNX.out hxe] at hR6
                have HR6 := Lib.hid hR6
                subst hxe
                clear hR6
                go_wp2_with ((at_builtin; refine wp_appL _ rfl _ _ 30 rfl 3 (.int .i64 0) 8 Try.underlying30 Try.infoInt rfl _ _ [.int .i64 (x : Int)] 1 rfl rfl rfl rfl (by simp [Value.oneCell']) hrow3 L1 L2 ?_; intro a5 cap5 w5 hrow5 hk5 hg5))
                refine (at_ok r q s tt _ (HRD4.out.kept hk5 HA3.out.symm)).mono ?_
                rintro e w' ⟨rfl, rfl⟩
                have hk6 := HKE3.out.new hk5 HFR.out
                have hf6 := HFR.out.grow hg5 HKE3.out.size
                have hlx : (natVals out).length + 1 = (out ++ [x]).length := by rw [natVals_length]; simp
                rw [hlx] at hrow5 hf6 ⊢
                rw [show natVals out ++ [Value.int .i64 (x : Int)] = natVals (out ++ [x]) by rw [natVals_append]; rfl] at hrow5
                have HR5 := Lib.hid hrow5
                have HK6 := Lib.hid hk6
                have HF6 := Lib.hid hf6
                clear hrow5 hk5 hg5 hk6 hf6 hlx
                go_wp2_with fail
                go_ret3
                rw [HRD2.out, HR6.out]
                exact NatsAtPost.ok2 (n := out.length + 1) (by simp) (by rfl) HR5.out HK6.out HF6.out
              · have hxb : ((x : Int) == en) = false := by rw [beq_eq_false_iff_ne]; exact hxe
                have hR6 := HRR.out
                rw [K.allP_more ls _ n en f out p x tt hlt HNX.out hxe] at hR6
                have HR6 := Lib.hid hR6
                clear hR6
                go_wp2_with ((at_builtin; refine wp_appL _ rfl _ _ 30 rfl 3 (.int .i64 0) 8 Try.underlying30 Try.infoInt rfl _ _ [.int .i64 (x : Int)] 1 rfl rfl rfl rfl (by simp [Value.oneCell']) hrow3 L1 L2 ?_; intro a5 cap5 w5 hrow5 hk5 hg5))
                go_roundg f
                case measure => have := Hk.out; omega
                case rel =>
                  have hx5 : natVals out ++ [Value.int .i64 (x : Int)] = natVals (out ++ [x]) := by rw [natVals_append]; rfl
                  rw [hx5] at hrow5
                  refine ⟨out ++ [x], tt, f, rfl, by omega, hto.2, by simp; omega, HR6.out, hrow5, HRD4.out.kept hk5 HA3.out.symm, HTB3.out.kept hk5 HA2.out ?_, HA1.out, ?_, (HA3.out.symm.grow HRD4.out.lt hg5).symm, HKE3.out.new hk5 HFR.out, HFR.out.grow hg5 HKE3.out.size, HFQ.out⟩
                  · intro y hy hm
                    have h1 := HAlt.out y hy
                    have h2 := HFR.out y hm
                    omega
                  · intro y hy hm
                    rcases hg5 y hm with h | h
                    · exact HA2.out y hy h
                    · have := HTB3.out.tab.lt y hy
                      omega
            · have hnx := K.nextR_err ls (K.bitsOf s.data.toList) p hz
              generalize (K.nextR ls (K.bitsOf s.data.toList) p).2.2 = er at hz hnx
              have hR6 := HRR.out
              rw [K.allP_err ls _ n en f out p er hlt hnx hz] at hR6
              have HR6 := Lib.hid hR6
              have hsm := K.nextP_small ls (K.bitsOf s.data.toList) 20 1 0 p
              have hz2 : ((er : Int) != 0) = true := bne_iff_ne.2 (by omega)
              rw [hnx]
              clear hnx hR6 hrd3 hk3 hkk3 hap4 hsm
              go_wp2_with fail
              go_ret3
              rw [HRD2.out, HR6.out]
              exact NatsAtPost.err (by rfl) HKE3.out
          · have hR6 := HRR.out
            rw [K.allP_done ls _ n en f out p hlt] at hR6
            have HR6 := Lib.hid hR6
            have hlt2 : ¬ (out.length : Int) < n := hlt
            clear hR6
            go_wp2_with fail
            refine (at_ok r q s p _ HRD3.out).mono ?_
            rintro e w' ⟨rfl, rfl⟩
            go_wp2_with fail
            go_ret3
            rw [HRD2.out, HR6.out]
            exact NatsAtPost.ok (by rfl) HROW.out HKE.out HFR.out
  · have hR : K.allR xs (K.bitsOf s.data.toList) at_ n en = ([], 0, 80) := by unfold K.allR; rw [hok]; rfl
    have HR := Lib.hid hR
    clear h
    go_enter Try.func48, Try.ntmps48
    go_wp2_with fail
    refine (made_err a cap xs _ HS.out hlen hok).mono ?_
    rintro e w' ⟨rfl, rfl⟩
    clear hR hok
    go_wp2_with fail
    go_ret3
    rw [HR.out]
    exact NatsAtPost.err (by rfl) (Kept.refl _ _)

theorem all_any (a : Option Addr) (cap : Nat) (xs : List Int) (s : ByteArray) (at_ n en : Int) (w : World) (h : Sees w 1 a xs.length (intVals xs)) (hlen : xs.length ≤ 140737488351232) (hs : s.size ≤ 1000000000) :
    Calls Try.prog 48 #[.slice a xs.length cap, .string s, .int .i64 at_, .int .i64 n, .int .i64 en] w (NatsAtPost (K.allR xs (K.bitsOf s.data.toList) at_ n en) w) :=
  all_wide a cap xs s at_ n en w h hlen (by omega) (.inl hs)

/-- What a function leaves that answers a number, a place and an error. -/
def NatAtPost (R : Nat × Nat × Nat) (w : World) (e : Ending) (w' : World) : Prop :=
  e = .returned (.tuple #[.int .i64 (R.1 : Nat), .int .i64 (R.2.1 : Nat), .int .i64 (R.2.2 : Nat)]) ∧ Kept [] w w'
end Go.Proofs.Ytdaenajhgbagdaa
