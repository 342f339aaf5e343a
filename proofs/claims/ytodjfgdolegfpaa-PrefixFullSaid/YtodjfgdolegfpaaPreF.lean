/-
  The walk of prefix's next.
-/
import Derived.Test.YtodjfgdolegfpaaPreE
namespace Go.Proofs.Ytodjfgdolegfpaa
open Go.RowKit
set_option linter.unusedVariables false
set_option linter.unusedSimpArgs false

/-- What next leaves. -/
def NextPost (R : Nat × Nat × Nat) (r q : Nat) (s : ByteArray) (w : World) (e : Ending) (w' : World) : Prop :=
  e = .returned (.tuple #[.int .i64 (R.1 : Nat), .int .i64 (R.2.2 : Nat)]) ∧ (R.2.2 = 0 → Rd w' r q s R.2.1) ∧ Kept [r] w w'
/-- In its loop: n bits are to be read next. -/
def NextI (w0 : World) (ls : List Nat) (r q : Nat) (s : ByteArray) (R : Nat × Nat × Nat) (k : Nat) (cv nv : Value) (w : World) : Prop :=
  ∃ n code p, 1 ≤ n ∧ n ≤ 20 ∧ k = 21 - n ∧ nv = .int .i64 (n : Nat) ∧ cv = .int .i64 (code : Nat) ∧ code < 2 ^ (n - 1) ∧ p ≤ 8 * s.size ∧ R = K.nextP ls (K.bitsOf s.data.toList) (21 - n) n code p ∧ Rd w r q s p ∧ Kept [r] w0 w
theorem takeR_1 (bs : List Bool) (p : Nat) (h : p < bs.length) : K.takeR bs p 1 = ((bs.getD p false).toNat, 0) := by
  unfold K.takeR
  rw [if_neg (by omega), if_neg (by simp; omega)]
  have := K.num_piece bs p 0 (by omega)
  rw [show (1 : Int).toNat = 0 + 1 from rfl, this, K.piece_zero]
  simp [K.num]
theorem takeR_1_short (bs : List Bool) (p : Nat) (h : bs.length ≤ p) : K.takeR bs p 1 = (0, 10) := by
  unfold K.takeR
  rw [if_neg (by omega), if_pos (by simp; omega)]
theorem i64_or1 (c b : Nat) (hc : c < 4611686018427387904) (hb : b ≤ 1) : bits BinOp.or IntKind.i64 ((c : Int) * 2) (b : Int) = ((2 * c + b : Nat) : Int) := by
  have hor : 2 * c ||| b = 2 * c + b := (Nat.two_pow_add_eq_or_of_lt (i := 1) (b := b) (by omega) c).symm
  have hx : 2 * c ||| b < 2 ^ 63 := by rw [hor]; omega
  rw [show (c : Int) * 2 = ((2 * c : Nat) : Int) by omega]
  show IntKind.i64.wrap ((BitVec.ofInt 64 ((2 * c : Nat) : Int) ||| BitVec.ofInt 64 (b : Int)).toNat : Int) = _
  rw [BitVec.toNat_or, ofInt_u64 _ (by omega), ofInt_u64 b (by omega), IntKind.wrap_i64, hor]
  omega

set_option maxHeartbeats 2000000 in
theorem next_any (g : Nat) (a : Option Addr) (cap : Nat) (xs : List Int) (ls : List Nat) (M : Nat) (dv : Value) (r q p : Nat) (s : ByteArray) (w : World) (h : TabOf w g a cap xs ls M dv) (hr : Rd w r q s p) (hp : p ≤ 8 * s.size) (hs : s.size ≤ 140737488351232)
    (ha : Apart (g :: foot dv) [r]) (ha2 : Apart (footA a) [r]) :
    Calls Try.prog 35 #[.pointer (some ⟨g, 0, none⟩), .pointer (some ⟨r, 0, none⟩)] w (NextPost (K.nextR ls (K.bitsOf s.data.toList) p) r q s w) := by
  have HT := Lib.hid h
  have HR := Lib.hid hr
  have HA := Lib.hid ha
  have HA2 := Lib.hid ha2
  have hM := h.le
  have hl := h.len
  have HBL := Lib.hid (bitsOf_len s)
  clear h hr ha ha2
  obtain ⟨R, hR⟩ : ∃ R, K.nextR ls (K.bitsOf s.data.toList) p = R := ⟨_, rfl⟩
  have HRR := Lib.hid hR
  rw [hR]
  clear hR
  go_enter Try.func35, Try.ntmps35
  go_wp2_with fail
  go_loopg [6, 7] 20 (fun k cv nv wr => NextI w ls r q s R k cv nv wr)
  case atStart => exact ⟨1, 0, p, by omega, by omega, by omega, rfl, rfl, by decide, hp, HRR.out.symm, HR.out, Kept.refl _ _⟩
  case round =>
    obtain ⟨n, code, p2, hn1, hn, hk, rfl, rfl, hcd, hp2, hRn, hrd, hkept⟩ := hrel
    have Hk := Lib.hid hk
    have HRN := Lib.hid hRn
    have HRD := Lib.hid hrd
    have HKE := Lib.hid hkept
    have hpn : 2 ^ (n - 1) ≤ 2 ^ 19 := Nat.pow_le_pow_right (by decide) (by omega)
    have hcode : code < 524288 := Nat.lt_of_lt_of_le hcd hpn
    have HCD := Lib.hid hcd
    clear hk hRn hrd hkept hcd hpn
    go_wp2_with fail
    refine (take_any r q s p2 1 _ HRD.out (by omega) hp2).mono ?_
    rintro e w2 ⟨rfl, hrd2, hk2⟩
    have HKE2 := Lib.hid (HKE.out.trans hk2 (fun x hx => .inl hx))
    by_cases hsh : 8 * s.size ≤ p2
    · have hT := takeR_1_short (K.bitsOf s.data.toList) p2 (by rw [HBL.out]; exact hsh)
      have hR2 : R = (0, 0, 10) := by
        rw [HRN.out, show 21 - n = (20 - n) + 1 by omega, K.nextP, if_pos (by rw [HBL.out]; omega)]
      have HR2 := Lib.hid hR2
      rw [hT]
      clear hT hR2 hrd2 hk2
      go_wp2_with fail
      go_ret2
      rw [HR2.out]
      exact ⟨rfl, (fun h => by cases h), HKE2.out⟩
    · have hT := takeR_1 (K.bitsOf s.data.toList) p2 (by rw [HBL.out]; omega)
      rw [hT] at hrd2 ⊢
      have hrd2 : Rd w2 r q s (p2 + 1) := hrd2
      have hstep : R = (if K.firstP ls n ≤ 2 * code + ((K.bitsOf s.data.toList).getD p2 false).toNat ∧ 2 * code + ((K.bitsOf s.data.toList).getD p2 false).toNat < K.firstP ls n + ls.count n then
          ((K.orderTo ls 21).getD ((K.orderTo ls n).length + (2 * code + ((K.bitsOf s.data.toList).getD p2 false).toNat - K.firstP ls n)) 0, p2 + 1, 0)
        else if K.beginsP ls (2 * code + ((K.bitsOf s.data.toList).getD p2 false).toNat) n then K.nextP ls (K.bitsOf s.data.toList) (20 - n) (n + 1) (2 * code + ((K.bitsOf s.data.toList).getD p2 false).toNat) (p2 + 1) else (0, 0, 90)) := by
        rw [HRN.out, show 21 - n = (20 - n) + 1 by omega, K.nextP, if_neg (by rw [HBL.out]; omega)]
      obtain ⟨b, hb⟩ : ∃ b, ((K.bitsOf s.data.toList).getD p2 false).toNat = b := ⟨_, rfl⟩
      have hb1 : b ≤ 1 := by rw [← hb]; exact Bool.toNat_le _
      rw [hb] at hstep ⊢
      have hor := i64_or1 code b (by omega) hb1
      have hwb : IntKind.i64.wrap (b : Int) = (b : Int) := IntWalk.i64_in _ (by omega)
      obtain ⟨c, hc⟩ : ∃ c, 2 * code + b = c := ⟨_, rfl⟩
      rw [hc] at hstep hor
      have hc20 : c < 2 ^ n := by
        have := HCD.out
        have e : 2 ^ n = 2 * 2 ^ (n - 1) := by rw [show n = (n - 1) + 1 by omega, Nat.pow_succ, Nat.add_sub_cancel]; omega
        omega
      have hcm : c ≤ 1048576 := by omega
      have HC20 := Lib.hid hc20
      have HST := Lib.hid hstep
      have HRD2 := Lib.hid hrd2
      have hTw := HT.out.kept HKE2.out HA.out HA2.out
      have HTW := Lib.hid hTw
      have hfit := hTw.fits n (by omega)
      have hfn := hTw.fits (n - 1) (by omega)
      have hcz : M < n → ls.count n = 0 := hTw.none n
      have HCZ := Lib.hid hcz
      obtain ⟨C, hC⟩ : ∃ C, ls.count n = C := ⟨_, rfl⟩
      obtain ⟨F, hF⟩ : ∃ F, K.firstP ls n = F := ⟨_, rfl⟩
      have cc := Tab.count hTw.tab.1 (tabUpto_length _ _) (tabUpto_length _ _) n C (by
        unfold tabC
        rw [tabUpto_get _ _ _ (by omega)]
        by_cases hnM : n < M + 1
        · rw [if_pos ⟨hn1, hnM⟩, hC]
        · rw [if_neg (by omega)]; have := hcz (by omega); simp; omega)
      obtain ⟨F', hF', hFF⟩ : ∃ F', (tabF ls (M + 1))[n]? = some F' ∧ (0 < C → F' = F) ∧ F' ≤ 1048576 := by
        unfold tabF
        rw [tabUpto_get _ _ _ (by omega)]
        refine ⟨_, rfl, fun h => ?_, ?_⟩
        · rw [if_pos ⟨hn1, by have := hcz; omega⟩, hF]
        · split <;> omega
      have cf := Tab.first hTw.tab.1 n F' hF'
      rw [hC, hF] at hstep hfit
      have hn22 : (n : Int) < 22 := by omega
      have hkw : IntKind.i64.wrap ((c : Int) - (F' : Int)) = (c : Int) - (F' : Int) := IntWalk.i64_in _ (by omega)
      have HFF := Lib.hid hFF
      have HCX := Lib.hid hC
      have HFX := Lib.hid hF
      have HST := Lib.hid hstep
      clear hstep hTw hcz hF' hfn hrd2 hk2 hT hc hb hc20 hC hF
      by_cases hA : F ≤ c ∧ c < F + C
      · have h0 : 0 < C := by omega
        obtain rfl : F' = F := HFF.out.1 h0
        obtain ⟨i, hi, hli, hci, hix⟩ := K.code_has ls n c (by rw [HFX.out]; exact hA.1) (by rw [HFX.out, HCX.out]; exact hA.2)
        rw [HFX.out] at hix
        have hnM : n < M + 1 := by
          rcases Nat.lt_or_ge n (M + 1) with h | h
          · exact h
          · have := HCZ.out (by omega)
            have := HCX.out
            omega
        have ho1 := K.orderTo_get ls n (M + 1) _ i hnM hix
        have ho2 := K.orderTo_get ls n 21 _ i (by omega) hix
        have hRA : R = (i, p2 + 1, 0) := by
          rw [HST.out, if_pos hA, List.getD, ho2, Option.getD_some]
        have HRA := Lib.hid hRA
        have hrow := HTW.out.tab.2.1
        obtain ⟨av, cv, hv, -, -, -, -⟩ := hrow.sees
        rw [natVals_length] at hv
        subst hv
        have hsee := hrow.seeA
        have hol := (List.getElem?_eq_some_iff.1 ho1).1
        obtain ⟨bo, oo, rfl, hcells⟩ := hsee.at (by rw [natVals_length]; omega)
        have c3 := hcells _ _ (nat_get _ _ _ ho1)
        have c1 := Tab.order HTW.out.tab.1
        have cb := Tab.begin HTW.out.tab.1 (tabUpto_length _ _) n (K.orderTo ls n).length (by unfold tabB; rw [tabUpto_get _ _ _ (by omega), if_pos (by omega)])
        have hO6 : (K.orderTo ls (M + 1)).length ≤ 6000 := by
          have h1 := orderTo_len ls (M + 1)
          have h2 : ls.length ≤ 258 := by rw [← HT.out.nats, K.natsOf_length]; exact hl.2
          have := Nat.mul_le_mul (show M + 1 ≤ 21 by omega) h2
          omega
        obtain ⟨D, hD⟩ : ∃ D, c - F' = D := ⟨_, rfl⟩
        have hkd : (c : Int) - (F' : Int) = (D : Int) := by omega
        rw [hD] at c3 hol
        rw [hkd] at hkw
        have hDC : D < C := by omega
        have hDCi : (D : Int) < (C : Int) := by omega
        generalize (K.orderTo ls n).length = Bn at c3 cb hol
        generalize (K.orderTo ls (M + 1)).length = On at c1 hol hO6
        have hwx : IntKind.i64.wrap ((Bn : Int) + (D : Int)) = (Bn : Int) + (D : Int) := IntWalk.i64_in _ (by omega)
        have hx0 : (0 : Int) ≤ (Bn : Int) + (D : Int) := by omega
        have hx1 : (Bn : Int) + (D : Int) < (On : Int) := by omega
        have hx2 : ((Bn : Int) + (D : Int)).toNat = Bn + D := by omega
        have hCi : (0 : Int) < (C : Int) := by omega
        clear hA hi hli hci hix ho1 ho2 hRA hrow hsee hcells hD hnM
        go_wp2_with fail
        go_quiet (fail)
        go_wp2_with fail
        go_ret2
        rw [HRA.out]
        exact ⟨rfl, fun _ => HRD2.out, HKE2.out.drewN _⟩
      · have hRB : R = if K.beginsP ls c n then K.nextP ls (K.bitsOf s.data.toList) (20 - n) (n + 1) c (p2 + 1) else (0, 0, 90) := by
          rw [HST.out, if_neg hA]
        have HRB := Lib.hid hRB
        have hor3 : C = 0 ∨ (0 < C ∧ c < F) ∨ (0 < C ∧ F + C ≤ c) := by omega
        clear hRB hA
        rcases hor3 with h0 | ⟨h0, h1⟩ | ⟨h0, h1⟩
        case' inl =>
          subst h0
          clear HFF
          go_wp2_with fail
        case' inr.inl =>
          obtain rfl : F' = F := HFF.out.1 h0
          have hCi : (0 : Int) < (C : Int) := by omega
          have hneg : ¬ (0 : Int) ≤ (c : Int) - (F' : Int) := by omega
          have hlt0 : (c : Int) - (F' : Int) < 0 := by omega
          go_wp2_with fail
        case' inr.inr =>
          obtain rfl : F' = F := HFF.out.1 h0
          have hCi : (0 : Int) < (C : Int) := by omega
          have hneg : (0 : Int) ≤ (c : Int) - (F' : Int) := by omega
          have hge : ¬ (c : Int) - (F' : Int) < (C : Int) := by omega
          go_wp2_with fail
        all_goals
          refine (begins_any g a cap xs ls M dv c n _ (by exact HTW.out) ⟨hn1, hn⟩ HC20.out).mono ?_
          rintro e w3 ⟨rfl, hk3⟩
          have HK3 := Lib.hid (HKE2.out.trans hk3 (by simp))
          have HRD3 := Lib.hid (HRD2.out.kept hk3 (Apart.nil _))
          clear hk3
          rcases Bool.eq_false_or_eq_true (K.beginsP ls c n) with hb | hb
          · have hR3 := HRB.out
            rw [hb, if_pos rfl] at hR3
            have HR3 := Lib.hid hR3
            have hn20 : n < 20 := by
              obtain ⟨m, h1, h2, -⟩ := (K.beginsP_iff ls c n).1 hb
              omega
            rw [hb]
            clear hb hR3
            go_wp2_with fail
            go_roundg (21 - (n + 1))
            case measure => have := Hk.out; omega
            case rel => exact ⟨n + 1, c, p2 + 1, by omega, by omega, rfl, by go_num, rfl, by rw [Nat.add_sub_cancel]; exact HC20.out, by omega, by rw [HR3.out, show 21 - (n + 1) = 20 - n by omega], HRD3.out, HK3.out⟩
          · have hR3 := HRB.out
            rw [hb, if_neg (by decide)] at hR3
            have HR3 := Lib.hid hR3
            rw [hb]
            clear hb hR3
            go_wp2_with fail
            go_ret2
            rw [HR3.out]
            exact ⟨rfl, (fun h => by cases h), HK3.out⟩
end Go.Proofs.Ytodjfgdolegfpaa
