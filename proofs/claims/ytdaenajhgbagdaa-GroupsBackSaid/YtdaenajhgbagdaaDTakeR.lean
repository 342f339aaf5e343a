/-
  The walk of the reference's Take of layer 10.
-/
import Derived.Test.YtdaenajhgbagdaaDTake
import Derived.Test.YtdaenajhgbagdaaWriteA
namespace Go.Proofs.Ytdaenajhgbagdaa
open Go.RowKit
set_option linter.unusedVariables false
set_option linter.unusedSimpArgs false

/-- In the reference's loop: the lengths so far, and where it stands. -/
def RTakeI (w0 : World) (bs : List Bool) (n : Nat) (R : List Int × Nat × Nat) (k : Nat) (y x v : Value) (w : World) : Prop :=
  ∃ p acc now, p ≤ bs.length ∧ k = bs.length - p ∧ y = .int .i64 (p : Nat) ∧ x = .int .i64 now ∧ (0 ≤ now ∧ now ≤ 31) ∧ acc.length ≤ n ∧ K.lens n acc now p (bs.drop p) = R ∧
    Row w 3 v (intVals acc) ∧ Kept [] w0 w ∧ Fresh w0.heap.size (foot v)

theorem bit_cell {w : World} {b off L p : Nat} {bs : List Bool} {x : Bool} (h : Sees w 1 (some ⟨b, off, none⟩) L (bis bs)) (hx : bs[p]? = some x) : w.cell? ⟨b, off + p, none⟩ = some (.int .i64 (x.toNat : Nat)) := by
  obtain ⟨b', off', he, hc⟩ := h.2 p (.int .i64 (x.toNat : Nat)) (by simp [bis, hx])
  injection he with he
  injection he with h1 h2
  subst h1 h2
  exact hc

set_option maxHeartbeats 1000000 in
theorem rtake_any (a : Option Addr) (L cap : Nat) (bs : List Bool) (at_ n : Int) (w : World) (hL : bs.length = L) (hl : L ≤ 1000000000000) (hc : L ≤ cap) (hcm : cap ≤ maxLen) (hs : Sees w 1 a L (bis bs)) :
    Calls Try.prog 63 #[.slice a L cap, .int .i64 at_, .int .i64 n] w (DTakePost (K.lensR bs at_ n) w) := by
  subst hL
  generalize hRR : K.lensR bs at_ n = R
  have HRR := Lib.hid hRR
  have HS := Lib.hid hs
  clear hRR hs
  by_cases ha0 : at_ < 0
  · have g1 : decide (at_ < 0) = true := by simp; omega
    have hR : R = ([], 0, 2) := by rw [← HRR.out]; unfold K.lensR; rw [if_pos (by omega)]
    have HR := Lib.hid hR
    clear hR
    go_enter Try.func63, Try.ntmps63
    go_wp2_with fail
    go_ret3
    exact DTakePost.nil HR.out rfl (Kept.refl _ _)
  · have g1 : decide (at_ < 0) = false := by simp; omega
    by_cases ha1 : (bs.length : Int) < at_
    · have g2 : decide ((bs.length : Int) < at_) = true := by simp; omega
      have hR : R = ([], 0, 2) := by rw [← HRR.out]; unfold K.lensR; rw [if_pos (by omega)]
      have HR := Lib.hid hR
      clear hR
      go_enter Try.func63, Try.ntmps63
      go_wp2_with fail
      go_ret3
      exact DTakePost.nil HR.out rfl (Kept.refl _ _)
    · have g2 : decide ((bs.length : Int) < at_) = false := by simp; omega
      by_cases hn2 : n < 2
      · have g3 : decide (n < 2) = true := by simp; omega
        have hR : R = ([], 0, 2) := by rw [← HRR.out]; unfold K.lensR; rw [if_pos (by omega)]
        have HR := Lib.hid hR
        clear hR
        go_enter Try.func63, Try.ntmps63
        go_wp2_with fail
        go_ret3
        exact DTakePost.nil HR.out rfl (Kept.refl _ _)
      · have g3 : decide (n < 2) = false := by simp; omega
        by_cases hn3 : 258 < n
        · have g4 : decide (258 < n) = true := by simp; omega
          have hR : R = ([], 0, 2) := by rw [← HRR.out]; unfold K.lensR; rw [if_pos (by omega)]
          have HR := Lib.hid hR
          clear hR
          go_enter Try.func63, Try.ntmps63
          go_wp2_with fail
          go_ret3
          exact DTakePost.nil HR.out rfl (Kept.refl _ _)
        · have g4 : decide (258 < n) = false := by simp; omega
          obtain ⟨at_, rfl⟩ := Int.eq_ofNat_of_zero_le (show 0 ≤ at_ by omega)
          obtain ⟨n, rfl⟩ := Int.eq_ofNat_of_zero_le (show 0 ≤ n by omega)
          have hLR : R = if bs.length < at_ + 5 then ([], 0, 10) else K.lens n [] (K.num (K.piece bs at_ 5)) (at_ + 5) (bs.drop (at_ + 5)) := by
            rw [← HRR.out]
            unfold K.lensR
            rw [if_neg (by omega)]
            rfl
          have hws : IntKind.i64.wrap ((bs.length : Int) - (at_ : Int)) = (bs.length : Int) - (at_ : Int) := IntWalk.i64_in _ (by omega)
          by_cases h5 : bs.length < at_ + 5
          · rw [if_pos h5] at hLR
            have g5 : decide ((bs.length : Int) - (at_ : Int) < 5) = true := by simp; omega
            have HR := Lib.hid hLR
            clear hLR
            go_enter Try.func63, Try.ntmps63
            go_wp2_with fail
            go_ret3
            exact DTakePost.nil HR.out rfl (Kept.refl _ _)
          · rw [if_neg h5] at hLR
            have g5 : decide ((bs.length : Int) - (at_ : Int) < 5) = false := by simp; omega
            have hw5 : IntKind.i64.wrap ((at_ : Int) + 5) = (at_ : Int) + 5 := IntWalk.i64_in _ (by omega)
            obtain ⟨b0, off, rfl, -⟩ := HS.out.at (by rw [bis_length]; omega)
            have hpl := K.piece_length bs at_ 5 (by omega)
            have hp : ((bis bs).drop at_).take 5 = bis (K.piece bs at_ 5) := by simp [bis, K.piece, List.map_drop, List.map_take]
            have hsp := HS.out.part at_ 5 (by omega) (a' := some ⟨b0, off + at_, none⟩) (fun _ b o h => by injection h with h; injection h with h1 h2; subst h1 h2; rfl)
            rw [hp] at hsp
            have hnum : K.num (K.piece bs at_ 5) < 32 := by
              have h1 := K.num_lt (K.piece bs at_ 5)
              rw [hpl] at h1
              exact h1
            have hwn : IntKind.i64.wrap (K.num (K.piece bs at_ 5) : Int) = (K.num (K.piece bs at_ 5) : Int) := IntWalk.i64_in _ (by omega)
            have hcn : ¬ cap = at_ := by omega
            have hai : (at_ : Int) + 5 ≤ (cap : Int) := by omega
            have hc5 : (5 : Int) ≤ (cap : Int) := by omega
            have HN := Lib.hid (refNumber_ok (some ⟨b0, off + at_, none⟩) 5 (cap - at_) _ w hpl (by decide) hsp)
            have HR := Lib.hid hLR.symm
            clear hp hsp hLR hpl
            go_enter Try.func63, Try.ntmps63
            go_wp2_with fail
            refine HN.out.mono ?_
            rintro e w' ⟨rfl, rfl⟩
            generalize K.num (K.piece bs at_ 5) = now0 at HR hnum hwn ⊢
            clear g1 g2 g3 g4 g5 hws HN
            go_wp2_with fail
            go_loopg [1, 9, 10] (bs.length - (at_ + 5)) (fun k y x v wr => RTakeI w bs n R k y x v wr)
            case atStart => exact ⟨at_ + 5, [], now0, by omega, rfl, by go_num, rfl, by omega, by simp, HR.out, Row.nil _ _, Kept.refl _ _, by simp [Fresh, foot, Value.ownBlock]⟩
            case round =>
              obtain ⟨p, acc, now, hp, hk, rfl, rfl, hnow, hacc, hL, hrow, hkept, hfr⟩ := hrel
              have Hk := Lib.hid hk
              obtain ⟨ao, co, hv, -, -, -, hfo⟩ := hrow.sees
              rw [intVals_length] at hv
              subst hv
              have hsr := HS.out.kept0 hkept
              have HSR := Lib.hid hsr
              have HL := Lib.hid hL
              have HROW := Lib.hid hrow
              have HKE := Lib.hid hkept
              have HFR := Lib.hid hfr
              have HFO := Lib.hid hfo
              clear hk hL hrow hkept hfr hfo hsr hw5 hcn hai hc5 hwn
              by_cases hdone : acc.length < n
              · have hdi : (acc.length : Int) < (n : Int) := by omega
                by_cases hbad : now < 1 ∨ 20 < now
                · have hR := HL.out
                  rw [K.lens_bad _ _ _ _ _ hdone hbad] at hR
                  have HR := Lib.hid hR.symm
                  clear hR
                  by_cases hb1 : now < 1
                  · have g1 : decide (now < 1) = true := by simp; omega
                    go_wp2_with fail
                    go_ret3
                    exact DTakePost.nil HR.out rfl HKE.out
                  · have g1 : decide (now < 1) = false := by simp; omega
                    have g2 : decide (20 < now) = true := by simp; omega
                    go_wp2_with fail
                    go_ret3
                    exact DTakePost.nil HR.out rfl HKE.out
                · have g1 : decide (now < 1) = false := by simp; omega
                  have g2 : decide (20 < now) = false := by simp; omega
                  by_cases hend : p = bs.length
                  · have hei : (p : Int) = (bs.length : Int) := by omega
                    have hR := HL.out
                    rw [List.drop_eq_nil_of_le (by omega), K.lens_end _ _ _ _ hdone hbad] at hR
                    have HR := Lib.hid hR.symm
                    clear hR
                    go_wp2_with fail
                    go_ret3
                    exact DTakePost.nil HR.out rfl HKE.out
                  · have hei : ¬ (p : Int) = (bs.length : Int) := by omega
                    have hpi : (p : Int) < (bs.length : Int) := by omega
                    obtain ⟨x, hx⟩ : ∃ x, bs[p]? = some x := ⟨_, List.getElem?_eq_getElem (by omega)⟩
                    have hdr : bs.drop p = x :: bs.drop (p + 1) := by
                      obtain ⟨h1, rfl⟩ := List.getElem?_eq_some_iff.1 hx
                      exact List.drop_eq_getElem_cons h1
                    have c0 := bit_cell HSR.out hx
                    have hw1 : IntKind.i64.wrap ((p : Int) + 1) = (p : Int) + 1 := IntWalk.i64_in _ (by omega)
                    have hR := HL.out
                    rw [hdr] at hR
                    clear hdr hx
                    cases x with
                    | false =>
                      rw [K.lens_zero _ _ _ _ _ hdone hbad] at hR
                      have HR := Lib.hid hR
                      have hrow4 := HROW.out
                      have L1 : (intVals acc).length + 1 ≤ maxLen := by rw [intVals_length]; simp only [maxLen]; omega
                      have L2 : ((intVals acc).length + 1) * 8 ≤ 140737488355328 := by rw [intVals_length]; omega
                      clear hR
                      go_wp2_with ((at_builtin; refine wp_appL _ rfl _ _ 30 rfl 3 (.int .i64 0) 8 Try.underlying30 Try.infoInt rfl _ _ [.int .i64 now] 1 rfl rfl rfl rfl (by simp [Value.oneCell']) hrow4 L1 L2 ?_; intro a5 cap5 w5 hrow5 hk5 hg5))
                      go_roundg (bs.length - (p + 1))
                      case measure => have := Hk.out; omega
                      case rel =>
                        refine ⟨p + 1, acc ++ [now], now, by omega, rfl, by go_num, rfl, hnow, by simp; omega, HR.out, ?_, HKE.out.new hk5 HFR.out, HFR.out.grow hg5 HKE.out.size⟩
                        have := hrow5
                        rw [show intVals (acc ++ [now]) = intVals acc ++ [.int .i64 now] by simp [intVals]]
                        exact this
                    | true =>
                      by_cases hend2 : p + 1 = bs.length
                      · have hei2 : (p : Int) + 1 = (bs.length : Int) := by omega
                        rw [List.drop_eq_nil_of_le (by omega), K.lens_short _ _ _ _ hdone hbad] at hR
                        have HR := Lib.hid hR.symm
                        clear hR
                        go_wp2_with fail
                        go_ret3
                        exact DTakePost.nil HR.out rfl HKE.out
                      · have hei2 : ¬ (p : Int) + 1 = (bs.length : Int) := by omega
                        have hpi2 : (p : Int) + 1 < (bs.length : Int) := by omega
                        obtain ⟨y, hy⟩ : ∃ y, bs[p + 1]? = some y := ⟨_, List.getElem?_eq_getElem (by omega)⟩
                        have hdr : bs.drop (p + 1) = y :: bs.drop (p + 2) := by
                          obtain ⟨h1, rfl⟩ := List.getElem?_eq_some_iff.1 hy
                          exact List.drop_eq_getElem_cons h1
                        have c1 := bit_cell HSR.out hy
                        have hw2 : IntKind.i64.wrap ((p : Int) + 2) = (p : Int) + 2 := IntWalk.i64_in _ (by omega)
                        have hw3 : IntKind.i64.wrap (now + 1) = now + 1 := IntWalk.i64_in _ (by omega)
                        have hw4 : IntKind.i64.wrap (now - 1) = now - 1 := IntWalk.i64_in _ (by omega)
                        rw [hdr] at hR
                        clear hdr hy
                        cases y with
                        | false =>
                          rw [K.lens_up _ _ _ _ _ hdone hbad] at hR
                          have HR := Lib.hid hR
                          clear hR
                          go_wp2_with fail
                          go_roundg (bs.length - (p + 2))
                          case measure => have := Hk.out; omega
                          case rel => exact ⟨p + 2, acc, now + 1, by omega, rfl, by go_num, by go_num, by omega, hacc, HR.out, HROW.out, HKE.out, HFR.out⟩
                        | true =>
                          rw [K.lens_down _ _ _ _ _ hdone hbad] at hR
                          have HR := Lib.hid hR
                          clear hR
                          go_wp2_with fail
                          go_roundg (bs.length - (p + 2))
                          case measure => have := Hk.out; omega
                          case rel => exact ⟨p + 2, acc, now - 1, by omega, rfl, by go_num, by go_num, by omega, hacc, HR.out, HROW.out, HKE.out, HFR.out⟩
              · have hdi : ¬ ((acc.length : Int) < (n : Int)) := by omega
                have hR := HL.out
                rw [K.lens_done _ _ _ _ _ (by omega)] at hR
                have HR := Lib.hid hR.symm
                clear hR
                go_wp2_with fail
                go_ret3
                rw [HR.out]
                exact ⟨ao, co, rfl, HROW.out, HKE.out, by have := HFR.out; rwa [← HFO.out] at this⟩
end Go.Proofs.Ytdaenajhgbagdaa
