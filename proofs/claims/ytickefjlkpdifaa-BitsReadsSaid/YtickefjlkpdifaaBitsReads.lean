/-
  BitsReads: the walk.
-/
import Derived.Test.YtickefjlkpdifaaAwakeA
import Derived.Test.YtickefjlkpdifaaAnyA
import Derived.Deep.RegionHeld3
namespace Go.Proofs.Ytickefjlkpdifaa
open Go.RowKit
set_option linter.unusedVariables false
set_option linter.unusedSimpArgs false

/-- Asks as cells. -/
def askVals (ps : List (Bool × Int)) : List Value := ps.flatMap fun p => [.bool p.1, .int .i64 p.2]
theorem askVals_length (ps : List (Bool × Int)) : (askVals ps).length = ps.length * 2 := by
  induction ps with
  | nil => rfl
  | cons p ps ih => simp [askVals] at ih ⊢; omega
theorem askVals_get (ps : List (Bool × Int)) (i : Nat) (p : Bool × Int) (h : ps[i]? = some p) : (askVals ps)[i * 2]? = some (.bool p.1) ∧ (askVals ps)[i * 2 + 1]? = some (.int .i64 p.2) := by
  induction ps generalizing i with
  | nil => simp at h
  | cons q ps ih =>
    cases i with
    | zero => simp at h; subst h; simp [askVals]
    | succ i =>
      have := ih i (by simpa using h)
      have e : askVals (q :: ps) = .bool q.1 :: .int .i64 q.2 :: askVals ps := by simp [askVals]
      rw [e, show (i + 1) * 2 = i * 2 + 1 + 1 by omega]
      simpa using this

/-- In the loop: j asks are answered; the reader stands at p. -/
def ReadsI (w0 : World) (s : ByteArray) (r q : Nat) (aa : Option Addr) (n : Nat) (k : Nat) (at_ i : Value) (w : World) : Prop :=
  ∃ j p, j ≤ n ∧ k = n - j ∧ i = .int .i64 (j : Nat) ∧ at_ = .int .i64 (p : Nat) ∧ p ≤ 8 * s.size ∧ Rd w r q s p ∧ Sees w 1 aa (8 * s.size) (bis (K.bitsOf s.data.toList)) ∧ Kept [] w0 w

set_option maxRecDepth 100000 in
set_option maxHeartbeats 1000000 in
theorem bitsReads_walk (s : ByteArray) (at0 : Int) (a : Option Addr) (len cap : Nat) (ps : List (Bool × Int)) (w : World) (hz : s.size ≤ 140737488351232) (hat : -9223372036854775808 ≤ at0 ∧ at0 ≤ 9223372036854775807)
    (h : Sees w 2 a len (askVals ps) ∧ ps.length = len ∧ len ≤ cap ∧ cap ≤ maxLen ∧ ∀ p ∈ ps, -9223372036854775808 ≤ p.2 ∧ p.2 ≤ 9223372036854775807) :
    Calls Try.prog 4 #[.string s, .int .i64 at0, .slice a len cap] w fun e w' => e = .returned (.bool true) ∧ Kept [] w w' := by
  obtain ⟨hs, hl, hc, hm, hp⟩ := h
  subst hl
  have hlt0 : 0 < ps.length → ∀ x ∈ footA a, x < w.heap.size := fun h0 => hs.lt (by rw [askVals_length]; omega)
  have HLT := Lib.hid hlt0
  have HS := Lib.hid hs
  have HP := Lib.hid hp
  have HCP := Lib.hid hc
  have HMX := Lib.hid hm
  clear hs hp hlt0 hat hc hm
  by_cases hbig : 1000 < s.size
  · have g1 : decide (1000 < (s.size : Int)) = true := by simp; omega
    go_enter Try.func4, Try.ntmps4
    go_wp2_with ((go_at_call 15; refine (awakeA _).mono ?_; rintro e w' ⟨rfl, hk⟩))
    go_ret
    exact ⟨rfl, by assumption⟩
  have g1 : decide (1000 < (s.size : Int)) = false := by simp; omega
  by_cases h300 : 300 < ps.length
  · have g2 : decide (300 < (ps.length : Int)) = true := by simp; omega
    go_enter Try.func4, Try.ntmps4
    go_wp2_with ((go_at_call 15; refine (awakeA _).mono ?_; rintro e w' ⟨rfl, hk⟩))
    go_ret
    exact ⟨rfl, by assumption⟩
  have g2 : decide (300 < (ps.length : Int)) = false := by simp; omega
  have hLs : 8 * s.data.toList.length = 8 * s.size := by rw [toList_length]
  by_cases hin : at0 < 0 ∨ (8 * s.size : Nat) < at0
  · have HLS := Lib.hid hLs
    clear hLs
    go_enter Try.func4, Try.ntmps4
    go_wp2_with fail
    refine (newReader_no _ _ _ (by omega) hin).mono ?_
    rintro e w1 ⟨rfl, rfl⟩
    go_wp2_with fail
    refine (refOf_ok _ _ (by omega)).mono ?_
    rintro e w2 ⟨ao, co, rfl, hrow, hk2, -⟩
    rw [HLS.out]
    by_cases h0 : at0 < 0
    · have g3 : decide (at0 < 0) = true := by simpa using h0
      go_wp2_with ((go_at_call 15; refine (awakeA _).mono ?_; rintro e w' ⟨rfl, hk⟩))
      go_ret
      exact ⟨rfl, (((Kept.refl [] w).alloc _).new hk2 (by simp [Fresh])).new ‹_› (by simp [Fresh])⟩
    · have g3 : decide (at0 < 0) = false := by simpa using h0
      have g4 : decide (8 * (s.size : Int) < at0) = true := by simp; omega
      go_wp2_with ((go_at_call 15; refine (awakeA _).mono ?_; rintro e w' ⟨rfl, hk⟩))
      go_ret
      exact ⟨rfl, (((Kept.refl [] w).alloc _).new hk2 (by simp [Fresh])).new ‹_› (by simp [Fresh])⟩
  · obtain ⟨p0, rfl⟩ := Int.eq_ofNat_of_zero_le (show 0 ≤ at0 by omega)
    have hp0 : p0 ≤ 8 * s.size := by omega
    have g3 : decide ((p0 : Int) < 0) = false := by simp
    have g4 : decide (8 * (s.size : Int) < (p0 : Int)) = false := by simp; omega
    have HLS := Lib.hid hLs
    clear hLs
    go_enter Try.func4, Try.ntmps4
    go_wp2_with fail
    refine (newReader_new _ _ _ (by omega) (by omega) (by simpa using hp0)).mono ?_
    rintro e w1 ⟨r, q, rfl, hr, hk1, hrq⟩
    have hr : Rd w1 r q s p0 := by simpa using hr
    go_wp2_with fail
    refine (refOf_ok _ _ (by omega)).mono ?_
    rintro e w2 ⟨ao, co, rfl, hrow, hk2, hfo, hco, hcm⟩
    obtain ⟨ao', co', hve, -, -, hsee, -⟩ := hrow.sees
    rw [HLS.out] at hco ⊢
    have hsee2 : Sees w2 1 ao (8 * s.size) (bis (K.bitsOf s.data.toList)) := by
      injection hve with h1 h2 h3
      subst h1
      rw [bis_length, bitsOf_len] at hsee
      exact hsee
    have hr2 := hr.kept hk2 (Apart.nil _)
    have hk12 := hk1.new hk2 (by simp [Fresh])
    have hrs := hr.lt
    have hapo : Apart (footA ao) [r] := (Apart.fresh (fun x hx => hrs x (by simp at hx; simp [hx])) hfo).symm
    have HAPO := Lib.hid hapo
    have HCO := Lib.hid hco
    have HCM := Lib.hid hcm
    clear hco hcm
    have hrw : w.heap.size ≤ r := hrq r (by simp)
    clear hrow hve hsee hr hk1 hk2 hfo hrs hrq hapo
    go_wp2
    go_loopg [1, 9] ps.length (fun k at_ i wr => ReadsI w s r q ao ps.length k at_ i wr)
    case atStart => exact ⟨0, p0, by omega, by omega, rfl, rfl, hp0, hr2, hsee2, hk12⟩
    case round =>
      obtain ⟨j, p, hj, hk, rfl, rfl, hp, hrd, hall, hkept⟩ := hrel
      have Hk := Lib.hid hk
      clear hk
      by_cases hlt : j < ps.length
      · have hsr := HS.out.kept0 hkept
        obtain ⟨b0, off, rfl, hcells⟩ := hsr.at (by rw [askVals_length]; omega)
        obtain ⟨⟨U, N⟩, hpj⟩ : ∃ p, ps[j]? = some p := ⟨_, List.getElem?_eq_getElem hlt⟩
        have c0 := hcells _ _ (askVals_get ps j _ hpj).1
        have c1 := hcells _ _ (askVals_get ps j _ hpj).2
        rw [← Nat.add_assoc] at c1
        have hb0 : b0 < w.heap.size := HLT.out (by omega) b0 (by simp [footA])
        have hb0' : b0 ∉ [r] := by simp; omega
        have HB0 := Lib.hid hb0'
        have hjl : (j : Int) < (ps.length : Int) := by omega
        clear hcells hsr hb0' hpj
        cases U with
        | true =>
          have hz0 := K.unaryR_zero (K.bitsOf s.data.toList) p N (by rw [bitsOf_len]; exact hp)
          rw [bitsOf_len] at hz0
          go_wp2_with fail
          refine (unary_any r q s p N _ hrd (by omega) hp).mono ?_
          rintro e w3 hpost
          generalize hpr : K.unaryR (K.bitsOf s.data.toList) p N = pr at hpost hz0
          have HPR := Lib.hid hpr
          clear hpr
          obtain ⟨V, E⟩ := pr
          obtain ⟨rfl, hrd3, hk3⟩ := hpost
          simp only at hz0 hrd3
          have hE : E ≤ 10 := by first | exact hz0.1 | exact hz1.2
          have d1 := hk3.cellOf c1 HB0.out
          have hall3 := hall.kept hk3 HAPO.out
          have HZ := Lib.hid hz0
          clear hz0
          have HK3 := Lib.hid hk3
          clear hk3 c0 c1
          go_wp2_with fail
          refine (refUnary_any _ _ _ _ _ _ _ (bitsOf_len s) (by omega) hp (by exact hall3)).mono ?_
          rintro e w4 ⟨rfl, rfl⟩
          rw [HPR.out]
          have hkw3 := hkept.new HK3.out (by intro x hx; simp at hx; subst hx; exact hrw)
          have HKW := Lib.hid hkw3
          clear hkw3
          by_cases hE0 : E = 0
          · subst hE0
            have hz0 := HZ.out
            have hb := hz0.2.2 rfl
            rw [if_pos rfl] at hrd3
            have hnx : p + V + 1 ≤ 8 * s.size := by omega
            clear hz0
            go_wp2_with fail
            refine (at_ok r q s _ _ hrd3).mono ?_
            rintro e w4 ⟨rfl, rfl⟩
            go_wp2_with fail
            refine (left_ok r q s _ _ hrd3 (by omega) hnx).mono ?_
            rintro e w4 ⟨rfl, m, rfl⟩
            go_wp2_with fail
            go_roundg (ps.length - (j + 1))
            case measure => have := Hk.out; omega
            case rel => exact ⟨j + 1, p + V + 1, by omega, rfl, by go_num, by go_num, hnx, hrd3, hall3, HKW.out.drewN _⟩
          · have hEf : ((E : Int) == 0) = false := by simp; omega
            rw [if_neg hE0] at hrd3
            clear hE0
            go_wp2_with fail
            refine (at_ok r q s _ _ hrd3).mono ?_
            rintro e w4 ⟨rfl, rfl⟩
            go_wp2_with fail
            refine (left_ok r q s _ _ hrd3 (by omega) hp).mono ?_
            rintro e w4 ⟨rfl, m, rfl⟩
            go_wp2_with fail
            go_roundg (ps.length - (j + 1))
            case measure => have := Hk.out; omega
            case rel => exact ⟨j + 1, p, by omega, rfl, by go_num, by go_num, hp, hrd3, hall3, HKW.out.drewN _⟩
        | false =>
          have hz0 := K.takeR_zero (K.bitsOf s.data.toList) p N
          have hz1 := K.takeR_lt (K.bitsOf s.data.toList) p N
          rw [bitsOf_len] at hz0
          go_wp2_with fail
          refine (take_any r q s p N _ hrd (by omega) hp).mono ?_
          rintro e w3 hpost
          generalize hpr : K.takeR (K.bitsOf s.data.toList) p N = pr at hpost hz0 hz1
          have HPR := Lib.hid hpr
          clear hpr
          obtain ⟨V, E⟩ := pr
          obtain ⟨rfl, hrd3, hk3⟩ := hpost
          simp only at hz0 hrd3 hz1
          have hE : E ≤ 10 := by first | exact hz0.1 | exact hz1.2
          have d1 := hk3.cellOf c1 HB0.out
          have hall3 := hall.kept hk3 HAPO.out
          have HZ := Lib.hid hz0
          clear hz0 hz1
          have HK3 := Lib.hid hk3
          clear hk3 c0 c1
          go_wp2_with fail
          refine (refTake_any _ _ _ _ _ _ _ (bitsOf_len s) (by omega) HCO.out HCM.out hp (by exact hall3)).mono ?_
          rintro e w4 ⟨rfl, rfl⟩
          rw [HPR.out]
          have hkw3 := hkept.new HK3.out (by intro x hx; simp at hx; subst hx; exact hrw)
          have HKW := Lib.hid hkw3
          clear hkw3
          by_cases hE0 : E = 0
          · subst hE0
            have hz0 := HZ.out
            have hb := hz0 rfl
            rw [if_pos rfl] at hrd3
            have hnx : p + N.toNat ≤ 8 * s.size := by omega
            clear hz0
            go_wp2_with fail
            refine (at_ok r q s _ _ hrd3).mono ?_
            rintro e w4 ⟨rfl, rfl⟩
            go_wp2_with fail
            refine (left_ok r q s _ _ hrd3 (by omega) hnx).mono ?_
            rintro e w4 ⟨rfl, m, rfl⟩
            go_wp2_with fail
            go_roundg (ps.length - (j + 1))
            case measure => have := Hk.out; omega
            case rel => exact ⟨j + 1, p + N.toNat, by omega, rfl, by go_num, by go_num, hnx, hrd3, hall3, HKW.out.drewN _⟩
          · have hEf : ((E : Int) == 0) = false := by simp; omega
            rw [if_neg hE0] at hrd3
            clear hE0
            go_wp2_with fail
            refine (at_ok r q s _ _ hrd3).mono ?_
            rintro e w4 ⟨rfl, rfl⟩
            go_wp2_with fail
            refine (left_ok r q s _ _ hrd3 (by omega) hp).mono ?_
            rintro e w4 ⟨rfl, m, rfl⟩
            go_wp2_with fail
            go_roundg (ps.length - (j + 1))
            case measure => have := Hk.out; omega
            case rel => exact ⟨j + 1, p, by omega, rfl, by go_num, by go_num, hp, hrd3, hall3, HKW.out.drewN _⟩
      · go_wp2_with ((go_at_call 15; refine (awakeA _).mono ?_; rintro e w' ⟨rfl, hk⟩))
        go_ret
        exact ⟨rfl, hkept.new ‹Kept [] wr _› (by simp [Fresh])⟩
end Go.Proofs.Ytickefjlkpdifaa
