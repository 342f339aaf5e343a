/-
  The walk of layer 6's reference of Take.
-/
import Derived.Test.YtkkjhkjgdpodeaaSymD
import Derived.Test.YtkkjhkjgdpodeaaSymE
namespace Go.Proofs.Ytkkjhkjgdpodeaa
open Go.RowKit
set_option linter.unusedVariables false
set_option linter.unusedSimpArgs false

/-- In Take's loop: i rows are read. -/
def RSTkI (bs : List Bool) (T : Option (List UInt8 × Nat)) (a : Nat → Bool) (w0 : World) (k : Nat) (pv v c : Value) (w : World) : Prop :=
  ∃ i p O out, i ≤ 16 ∧ k = 16 - i ∧ c = .int .i64 (i : Nat) ∧ pv = .int .i64 (p : Nat) ∧ p ≤ bs.length ∧ v = .string O ∧ O.data.toList = out ∧ out.length ≤ 16 * i ∧
    T = K.takeRows bs a (16 - i) i p out ∧ Kept [] w0 w
/-- In the loop within: j bits of a row are seen. -/
def RSTkJ (i : Nat) (row : List Bool) (out : List UInt8) (w0 : World) (k : Nat) (v c : Value) (w : World) : Prop :=
  ∃ j O, j ≤ 16 ∧ k = 16 - j ∧ c = .int .i64 (j : Nat) ∧ v = .string O ∧ O.data.toList = out ++ K.saidTo i row j ∧ Kept [] w0 w
theorem bis_at {w : World} {b off n : Nat} {bs : List Bool} (h : Sees w 1 (some ⟨b, off, none⟩) n (bis bs)) (i : Nat) (hi : i < bs.length) : w.cell? ⟨b, off + i, none⟩ = some (.int .i64 ((bs.getD i false).toNat : Nat)) := by
  obtain ⟨b', off', he, hc⟩ := h.2 i _ (bis_get bs i hi)
  injection he with he
  injection he with h1 h2
  subst h1 h2
  exact hc

set_option maxHeartbeats 1000000 in
theorem rsymtake_any (a : Option Addr) (L cap : Nat) (bs : List Bool) (at_ : Int) (w : World) (hL : bs.length = L) (hl : L ≤ 1000000000) (hc : L ≤ cap) (hs : Sees w 1 a L (bis bs)) :
    Calls Try.prog 21 #[.slice a L cap, .int .i64 at_] w (TextAtPost (K.takeSR bs at_) w) := by
  by_cases hat : at_ < 0
  · have hR : K.takeSR bs at_ = ([], 0, 2) := by unfold K.takeSR; rw [if_pos (.inl hat)]
    have g1 : decide (at_ < 0) = true := decide_eq_true hat
    have HR := Lib.hid hR
    clear hR hs
    go_enter Try.func21, Try.ntmps21
    go_wp2_with fail
    go_ret3
    rw [HR.out]
    exact ⟨rfl, Kept.refl _ _⟩
  · obtain ⟨at_, rfl⟩ := Int.eq_ofNat_of_zero_le (show 0 ≤ at_ by omega)
    clear hat
    by_cases hal : L < at_
    · have hR : K.takeSR bs at_ = ([], 0, 2) := by unfold K.takeSR; rw [if_pos (.inr (by rw [hL]; omega))]
      have HR := Lib.hid hR
      have hali : (L : Int) < (at_ : Int) := by omega
      clear hR hs
      go_enter Try.func21, Try.ntmps21
      go_wp2_with fail
      go_ret3
      rw [HR.out]
      exact ⟨rfl, Kept.refl _ _⟩
    · by_cases hsh : L < at_ + 16
      · have hR : K.takeSR bs at_ = ([], 0, 10) := by unfold K.takeSR; rw [if_neg (by rw [hL]; omega), if_pos (by rw [hL]; simpa using hsh)]
        have HR := Lib.hid hR
        have hsi : (L : Int) - (at_ : Int) < 16 := by omega
        clear hR hs
        go_enter Try.func21, Try.ntmps21
        go_wp2_with fail
        go_ret3
        rw [HR.out]
        exact ⟨rfl, Kept.refl _ _⟩
      · have hR : K.takeSR bs at_ = K.saidR (K.takeRows bs (fun i => bs.getD (at_ + i) false) 16 0 (at_ + 16) []) := by
          unfold K.takeSR
          rw [if_neg (by rw [hL]; omega), if_neg (by rw [hL]; simpa using hsh), Int.toNat_natCast]
        have HR := Lib.hid hR
        have HL := Lib.hid hL
        obtain ⟨b, off, rfl, -⟩ := hs.at (by rw [bis_length]; omega)
        have HS := Lib.hid hs
        have hn1 : ¬ at_ = cap := by omega
        have hn2 : (at_ : Int) + 16 ≤ (cap : Int) := by omega
        have hn3 : ((at_ : Int) + 16).toNat = at_ + 16 := by omega
        have hsi : ¬ (L : Int) - (at_ : Int) < 16 := by omega
        clear hR hs hL
        generalize hT : K.takeRows bs (fun i => bs.getD (at_ + i) false) 16 0 (at_ + 16) [] = T at HR
        have HT := Lib.hid hT
        clear hT
        go_enter Try.func21, Try.ntmps21
        go_wp2_with fail
        go_loopg [1, 8, 9] 16 (fun k pv v c wr => RSTkI bs T (fun i => bs.getD (at_ + i) false) w k pv v c wr)
        case atStart => exact ⟨0, at_ + 16, ⟨#[]⟩, [], by omega, by omega, rfl, by go_num, by rw [HL.out]; omega, rfl, rfl, by simp, HT.out.symm, Kept.refl _ _⟩
        case round =>
          obtain ⟨i, p, O, out, hi, hk, rfl, rfl, hp, rfl, hO, hol, hTT, hkept⟩ := hrel
          have Hk := Lib.hid hk
          have HTT := Lib.hid hTT
          have HKE := Lib.hid hkept
          have HO := Lib.hid hO
          have hpL : p ≤ L := by have := HL.out; omega
          clear hk hTT hkept hO hp
          by_cases hlt : i < 16
          · have hli : (i : Int) < 16 := by omega
            have c0 := bis_at (HS.out.kept0 HKE.out) (at_ + i) (by rw [HL.out]; omega)
            rw [← Nat.add_assoc] at c0
            have hstep : ∀ k, K.takeRows bs (fun i => bs.getD (at_ + i) false) (k + 1) i p out =
                if bs.getD (at_ + i) false then (if bs.length < p + 16 then none else K.takeRows bs (fun i => bs.getD (at_ + i) false) k (i + 1) (p + 16) (out ++ K.saidTo i (K.piece bs p 16) 16)) else K.takeRows bs (fun i => bs.getD (at_ + i) false) k (i + 1) p out := fun k => by rw [K.takeRows]
            have hTT2 := HTT.out
            rw [show 16 - i = (16 - (i + 1)) + 1 by omega, hstep] at hTT2
            have HTT2 := Lib.hid hTT2
            clear hstep hTT2
            rcases Bool.eq_false_or_eq_true (bs.getD (at_ + i) false) with hb | hb
            · rw [hb] at c0
              have c0 : wr.cell? ⟨b, off + at_ + i, none⟩ = some (.int .i64 1) := c0
              have hT3 := HTT2.out
              rw [hb, if_pos rfl] at hT3
              have HT3 := Lib.hid hT3
              clear hb hT3
              by_cases hsh2 : L < p + 16
              · have hR2 : K.takeSR bs at_ = ([], 0, 10) := by
                  rw [HR.out, HT3.out, if_pos (by rw [HL.out]; exact hsh2)]; rfl
                have HR2 := Lib.hid hR2
                have hs2 : (L : Int) - (p : Int) < 16 := by omega
                clear hR2
                go_wp2_with fail
                go_ret3
                rw [HR2.out]
                exact ⟨rfl, HKE.out⟩
              · have hs2 : ¬ (L : Int) - (p : Int) < 16 := by omega
                have hT4 := HT3.out
                rw [if_neg (by rw [HL.out]; exact hsh2)] at hT4
                have HT4 := Lib.hid hT4
                have hpi : ∀ j, j < 16 → (K.piece bs p 16).getD j false = bs.getD (p + j) false := fun j hj => by
                  unfold K.piece
                  rw [List.getD, List.getD, List.getElem?_take, if_pos hj, List.getElem?_drop]
                have HPI := Lib.hid hpi
                clear hT4 hpi
                generalize K.piece bs p 16 = row at HT4 HPI
                go_wp2_with fail
                go_loopg [8, 10] 16 (fun k v c wr => RSTkJ i row out w k v c wr)
                case atStart => exact ⟨0, O, by omega, by omega, rfl, rfl, by rw [HO.out]; simp [K.saidTo], HKE.out⟩
                case round =>
                  obtain ⟨j, O2, hj, hk, rfl, rfl, hO2, hkept⟩ := hrel
                  have Hk2 := Lib.hid hk
                  have HKE2 := Lib.hid hkept
                  have HO2 := Lib.hid hO2
                  clear hk hkept hO2 c0
                  by_cases hlt2 : j < 16
                  · have hlj : (j : Int) < 16 := by omega
                    have c1 := bis_at (HS.out.kept0 HKE2.out) (p + j) (by rw [HL.out]; omega)
                    rw [← HPI.out j hlt2] at c1
                    have hpj : (p : Int) + (j : Int) < (L : Int) := by omega
                    have hpj0 : (0 : Int) ≤ (p : Int) + (j : Int) := by omega
                    have hpj2 : ((p : Int) + (j : Int)).toNat = p + j := by omega
                    rcases Bool.eq_false_or_eq_true (row.getD j false) with hb2 | hb2
                    · rw [hb2] at c1
                      have c1 : wr.cell? ⟨b, off + (p + j), none⟩ = some (.int .i64 1) := c1
                      have hyes := K.saidTo_yes i row j hb2
                      have HY := Lib.hid hyes
                      have hwb : IntKind.u8.wrap (16 * (i : Int) + (j : Int)) = 16 * (i : Int) + (j : Int) := by rw [IntKind.wrap_u8]; omega
                      have hbn : ((UInt8.ofNat (16 * i + j)).toNat : Int) = 16 * (i : Int) + (j : Int) := by rw [UInt8.toNat_ofNat', Nat.mod_eq_of_lt (by omega)]; simp
                      have hct := byte_text wr (UInt8.ofNat (16 * i + j))
                      rw [hbn] at hct
                      have hsl := K.saidTo_length i row j
                      have ho2 : O2.size ≤ 300 := by rw [← byte_len, HO2.out, List.length_append]; omega
                      clear hb2 hyes hbn hsl
                      go_wp2_with fail
                      go_roundg (16 - (j + 1))
                      case measure => have := Hk2.out; omega
                      case rel => exact ⟨j + 1, _, by omega, rfl, by go_num, rfl, by rw [ba_append, HO2.out, HY.out, List.append_assoc]; simp, HKE2.out.alloc _⟩
                    · rw [hb2] at c1
                      have c1 : wr.cell? ⟨b, off + (p + j), none⟩ = some (.int .i64 0) := c1
                      have hno := K.saidTo_no i row j hb2
                      have HN := Lib.hid hno
                      clear hb2 hno
                      go_wp2_with fail
                      go_roundg (16 - (j + 1))
                      case measure => have := Hk2.out; omega
                      case rel => exact ⟨j + 1, O2, by omega, rfl, by go_num, rfl, by rw [HN.out]; exact HO2.out, HKE2.out⟩
                  · obtain rfl : j = 16 := by omega
                    have hsl := K.saidTo_length i row 16
                    have hp16 : p + 16 ≤ L := by omega
                    go_wp2_with fail
                    go_roundg (16 - (i + 1))
                    case measure => have := Hk.out; omega
                    case rel => exact ⟨i + 1, p + 16, O2, _, by omega, rfl, by go_num, by go_num, by rw [HL.out]; exact hp16, rfl, HO2.out, by rw [List.length_append]; omega, HT4.out, HKE2.out⟩
            · rw [hb] at c0
              have c0 : wr.cell? ⟨b, off + at_ + i, none⟩ = some (.int .i64 0) := c0
              have hT3 := HTT2.out
              rw [hb, if_neg (by decide)] at hT3
              have HT3 := Lib.hid hT3
              clear hb hT3
              go_wp2_with fail
              go_roundg (16 - (i + 1))
              case measure => have := Hk.out; omega
              case rel => exact ⟨i + 1, p, O, out, by omega, rfl, by go_num, rfl, by rw [HL.out]; exact hpL, rfl, HO.out, by omega, HT3.out, HKE.out⟩
          · obtain rfl : i = 16 := by omega
            have hT5 : T = some (out, p) := HTT.out
            have hR5 := HR.out
            rw [hT5, K.saidR] at hR5
            by_cases hnil : out = []
            · rw [if_pos hnil] at hR5
              have HR5 := Lib.hid hR5
              have g1 : O.toList = [] := by rw [ByteArray.toList_eq, HO.out]; exact hnil
              have g2 : O.toList.isEmpty = true := by rw [g1]; rfl
              clear hT5 hR5 hnil
              go_wp2_with fail
              go_ret3
              rw [HR5.out]
              exact ⟨rfl, HKE.out⟩
            · rw [if_neg hnil] at hR5
              have HR5 := Lib.hid hR5
              have g1 : ¬ O.toList = [] := by rw [ByteArray.toList_eq, HO.out]; exact hnil
              have g2 : O.toList.isEmpty = false := by simpa using g1
              have hOO := Lib.hid (ba_of _ _ HO.out)
              clear hT5 hR5 hnil
              go_wp2_with fail
              go_ret3
              rw [HR5.out]
              exact ⟨by rw [hOO.out]; rfl, HKE.out⟩
end Go.Proofs.Ytkkjhkjgdpodeaa
