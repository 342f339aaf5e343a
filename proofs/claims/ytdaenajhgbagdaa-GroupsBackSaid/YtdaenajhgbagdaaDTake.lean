/-
  The walk of delta's Take.
-/
import Derived.Test.YtdaenajhgbagdaaDTakeA
import Derived.WalkMore
namespace Go.Proofs.Ytdaenajhgbagdaa
open Go.RowKit
set_option linter.unusedVariables false
set_option linter.unusedSimpArgs false

/-- In Take's loops: the lengths so far, and where the reader stands. -/
def DTakeI (w0 : World) (s : ByteArray) (n : Nat) (R : List Int × Nat × Nat) (c r q lo : Nat) (fl : Bool) (k : Nat) (v x : Value) (w : World) : Prop :=
  ∃ p acc now, lo ≤ p ∧ p ≤ 8 * s.size ∧ k = 8 * s.size - p ∧ x = .int .i64 now ∧ (0 ≤ now ∧ now ≤ 31) ∧ acc.length ≤ n ∧ (fl = true → acc.length < n) ∧ K.lens n acc now p ((K.bitsOf s.data.toList).drop p) = R ∧
    Rd w r q s p ∧ Row w 3 v (intVals acc) ∧ w.heap[c]? = some (.cells #[.pointer (some ⟨r, 0, none⟩)] 91 (0, 0)) ∧ Apart (foot v) [c, r, q] ∧ Kept [] w0 w ∧ Fresh w0.heap.size (foot v)

/-- What Take leaves. -/
def DTakePost (R : List Int × Nat × Nat) (w : World) (e : Ending) (w' : World) : Prop :=
  ∃ a c, e = .returned (.tuple #[.slice a R.1.length c, .int .i64 R.2.1, .int .i64 R.2.2]) ∧ Row w' 3 (.slice a R.1.length c) (intVals R.1) ∧ Kept [] w w' ∧ Fresh w.heap.size (footA a)
theorem DTakePost.nil {R : List Int × Nat × Nat} {w w' : World} {x : Nat} {e : Ending} (hR : R = ([], 0, x)) (he : e = .returned (.tuple #[.slice none 0 0, .int .i64 0, .int .i64 x])) (hk : Kept [] w w') : DTakePost R w e w' := by
  subst hR
  exact ⟨none, 0, he, Row.nil _ _, hk, by simp [Fresh, footA]⟩

theorem K.drop_bit (s : ByteArray) (p : Nat) (h : p < 8 * s.size) : (K.bitsOf s.data.toList).drop p = K.tbit s.data.toList p :: (K.bitsOf s.data.toList).drop (p + 1) := by
  have hl : p < (K.bitsOf s.data.toList).length := by rw [bitsOf_len]; exact h
  rw [List.drop_eq_getElem_cons hl]
  congr 1
  have := K.bitsOf_get s.data.toList p (by rw [toList_length]; exact h)
  rw [List.getElem?_eq_getElem hl] at this
  exact Option.some.inj this
theorem K.takeR_end (s : ByteArray) (p : Nat) (h : 8 * s.size ≤ p) : K.takeR (K.bitsOf s.data.toList) p 1 = (0, 10) := by
  unfold K.takeR
  rw [if_neg (by omega), if_pos (by rw [bitsOf_len]; simp; omega)]

set_option maxHeartbeats 1000000 in
theorem dtake_any (s : ByteArray) (at_ n : Int) (w : World) (hs : s.size ≤ 1000000000) :
    Calls Try.prog 59 #[.string s, .int .i64 at_, .int .i64 n] w (DTakePost (K.lensR (K.bitsOf s.data.toList) at_ n) w) := by
  by_cases hat : at_ < 0 ∨ (8 * s.size : Nat) < at_
  · have hR : K.lensR (K.bitsOf s.data.toList) at_ n = ([], 0, 2) := by unfold K.lensR; rw [if_pos (by rw [bitsOf_len]; omega)]
    have HR := Lib.hid hR
    clear hR
    go_enter Try.func59, Try.ntmps59
    go_wp2_with fail
    go_step3
    go_wp2_with fail
    refine (newReader_no s at_ _ (by omega) hat).mono ?_
    rintro e w1 ⟨rfl, rfl⟩
    go_wp2_with fail
    try rw [Exit.noGoto_ret]
    go_ret3
    exact DTakePost.nil HR.out rfl (((Kept.refl _ _).alloc _).alloc _)
  · obtain ⟨at_, rfl⟩ := Int.eq_ofNat_of_zero_le (show 0 ≤ at_ by omega)
    generalize hRR : K.lensR (K.bitsOf s.data.toList) at_ n = R
    have HRR := Lib.hid hRR
    clear hRR
    go_enter Try.func59, Try.ntmps59
    go_wp2_with fail
    go_step3
    go_wp2_with fail
    refine (newReader_new s _ _ (by omega) (by omega) (by simp; omega)).mono ?_
    rintro e w1 ⟨r, q, rfl, hr, hk1, hrq⟩
    rw [Int.toNat_natCast] at hr
    have hrl := hr.lt
    have HRQ := Lib.hid hrq
    have HRL := Lib.hid hrl
    have HK1 := Lib.hid hk1
    clear hk1 hrl hrq
    by_cases hn2 : n < 2
    · have hR : R = ([], 0, 2) := by rw [← HRR.out]; unfold K.lensR; rw [if_pos (by omega)]
      have HR := Lib.hid hR
      have g1 : decide (n < 2) = true := by simp; omega
      clear hR
      go_wp2_with fail
      try rw [Exit.noGoto_ret]
      go_ret3
      exact DTakePost.nil HR.out rfl (HK1.out.alloc _)
    · have g1 : decide (n < 2) = false := by simp; omega
      by_cases hn3 : 258 < n
      · have hR : R = ([], 0, 2) := by rw [← HRR.out]; unfold K.lensR; rw [if_pos (by omega)]
        have HR := Lib.hid hR
        have g2 : decide (258 < n) = true := by simp; omega
        clear hR
        go_wp2_with fail
        try rw [Exit.noGoto_ret]
        go_ret3
        exact DTakePost.nil HR.out rfl (HK1.out.alloc _)
      · have g2 : decide (258 < n) = false := by simp; omega
        obtain ⟨n, rfl⟩ := Int.eq_ofNat_of_zero_le (show 0 ≤ n by omega)
        go_wp2_with fail
        have hc0 : (w1.alloc (.cells #[.pointer (some ⟨r, 0, none⟩)] 91)).heap[w1.heap.size]? = some (.cells #[.pointer (some ⟨r, 0, none⟩)] 91 (0, 0)) := heap_alloc_new _ _
        have hr2 := hr.kept ((Kept.refl [] w1).alloc (.cells #[.pointer (some ⟨r, 0, none⟩)] 91)) (Apart.nil _)
        have hk2 := HK1.out.alloc (.cells #[.pointer (some ⟨r, 0, none⟩)] 91)
        have hcn : ∀ x ∈ [w1.heap.size], x ∉ [r, q] := by
          intro x hx hm
          rw [List.mem_singleton.1 hx] at hm
          have := HRL.out _ hm
          omega
        have hfc : Fresh w.heap.size [w1.heap.size, r, q] := by
          intro x hx
          rcases List.mem_cons.1 hx with rfl | hx
          · exact HK1.out.size
          · exact HRQ.out x hx
        generalize w1.alloc (.cells #[.pointer (some ⟨r, 0, none⟩)] 91) = W2 at hc0 hr2 hk2 ⊢
        generalize w1.heap.size = c at hc0 hcn hfc ⊢
        have HK2 := Lib.hid hk2
        have HCN := Lib.hid hcn
        have HFC := Lib.hid hfc
        have hTR : K.takeR (K.bitsOf s.data.toList) at_ 5 = if 8 * s.size < at_ + 5 then (0, 10) else (K.num (K.piece (K.bitsOf s.data.toList) at_ 5), 0) := by
          unfold K.takeR
          rw [if_neg (by omega), bitsOf_len]
          rfl
        have hLR : R = if 8 * s.size < at_ + 5 then ([], 0, 10) else K.lens n [] (K.num (K.piece (K.bitsOf s.data.toList) at_ 5)) (at_ + 5) ((K.bitsOf s.data.toList).drop (at_ + 5)) := by
          rw [← HRR.out]
          unfold K.lensR
          rw [if_neg (by rw [bitsOf_len]; omega), bitsOf_len]
          rfl
        have HTR := Lib.hid hTR
        have HLR := Lib.hid hLR
        refine (dtake1 c r q s at_ 5 _ hc0 hr2 (by omega) (by omega) (by decide)).mono ?_
        clear hr hk2 hcn hfc hTR hLR g1 g2
        rintro e w3 hp
        rw [HTR.out] at hp
        by_cases h5 : 8 * s.size < at_ + 5
        · rw [if_pos h5] at hp
          obtain ⟨rfl, hr3, hk3⟩ := hp
          have hR := HLR.out
          rw [if_pos h5] at hR
          have HR := Lib.hid hR
          have HK3 := Lib.hid (HK2.out.new hk3 (fun x hx => HFC.out x (by simp at hx; simp [hx])))
          clear hr3 hk3 hR hc0 hr2
          go_wp2_with fail
          try rw [Exit.noGoto_ret]
          go_ret3
          exact DTakePost.nil HR.out rfl HK3.out
        · rw [if_neg h5] at hp
          obtain ⟨rfl, hr3, hk3⟩ := hp
          have hr3 : Rd w3 r q s (at_ + 5) := hr3
          have hR := HLR.out
          rw [if_neg h5] at hR
          have hnum : K.num (K.piece (K.bitsOf s.data.toList) at_ 5) < 32 := by
            have h1 := K.num_lt (K.piece (K.bitsOf s.data.toList) at_ 5)
            rw [K.piece_len _ _ _ (by rw [bitsOf_len]; omega)] at h1
            exact h1
          have hc3 := hk3.heap hc0 (by have := HCN.out c (by simp); simp at this; simp [this])
          have HK3 := Lib.hid (HK2.out.new hk3 (fun x hx => HFC.out x (by simp at hx; simp [hx])))
          generalize K.num (K.piece (K.bitsOf s.data.toList) at_ 5) = now0 at hR hnum ⊢
          have HR := Lib.hid hR.symm
          clear hk3 hR hc0 hr2 HLR HTR
          go_wp2_with fail
          go_step3
          go_wp2_with fail
          go_loopg [13, 11] (8 * s.size - (at_ + 5)) (fun k v x wr => DTakeI w s n R c r q (at_ + 5) false k v x wr)
          case atStart => exact ⟨at_ + 5, [], now0, by omega, by omega, rfl, rfl, by omega, by simp, fun h => (by cases h), HR.out, hr3, Row.nil _ _, hc3, fun x hx => (by simp [foot, Value.ownBlock] at hx), HK3.out, by simp [Fresh, foot, Value.ownBlock]⟩
          case round =>
            obtain ⟨p0, acc, now, hlo, hp, hk, rfl, hnow, hacc, -, hL, hrd, hrow, hcc, hap, hkept, hfr⟩ := hrel
            have Hk := Lib.hid hk
            obtain ⟨ao, co, hv, -, -, -, hfo⟩ := hrow.sees
            rw [intVals_length] at hv
            subst hv
            clear hk hr3 hc3
            by_cases hdone : acc.length < n
            · have hdi : (acc.length : Int) < (n : Int) := by omega
              have HL := Lib.hid hL
              have HRD := Lib.hid hrd
              have HROW := Lib.hid hrow
              have HCC := Lib.hid hcc
              have HAP := Lib.hid hap
              have HKE := Lib.hid hkept
              have HFR := Lib.hid hfr
              clear hL hrd hrow hcc hap hkept hfr hfo
              go_wp2_with fail
              go_loopg [13, 11] (8 * s.size - p0) (fun k v x wr => DTakeI w s n R c r q p0 true k v x wr)
              case atStart => exact ⟨p0, acc, now, by omega, hp, rfl, rfl, hnow, hacc, fun _ => hdone, HL.out, HRD.out, HROW.out, HCC.out, HAP.out, HKE.out, HFR.out⟩
              case round =>
                obtain ⟨p, acc, now, hlo2, hp, hk, rfl, hnow, hacc, hlt, hL, hrd, hrow, hcc, hap, hkept, hfr⟩ := hrel
                have Hk2 := Lib.hid hk
                obtain ⟨ao, co, hv, -, -, -, hfo⟩ := hrow.sees
                rw [intVals_length] at hv
                subst hv
                have hlt1 := hlt rfl
                clear hlt
                have HL := Lib.hid hL
                have HRD := Lib.hid hrd
                have HROW := Lib.hid hrow
                have HCC := Lib.hid hcc
                have HAP := Lib.hid hap
                have HKE := Lib.hid hkept
                have HFR := Lib.hid hfr
                clear hk hL hrd hrow hcc hap hkept hfr hfo hdi hdone
                by_cases hbad : now < 1 ∨ 20 < now
                · have hR := HL.out
                  rw [K.lens_bad _ _ _ _ _ hlt1 hbad] at hR
                  have HR := Lib.hid hR.symm
                  clear hR
                  by_cases hb1 : now < 1
                  · have g1 : decide (now < 1) = true := by simp; omega
                    go_wp2_with fail
                    try rw [Exit.noGoto_ret]
                    go_ret3
                    exact DTakePost.nil HR.out rfl HKE.out
                  · have g1 : decide (now < 1) = false := by simp; omega
                    have g2 : decide (20 < now) = true := by simp; omega
                    go_wp2_with fail
                    try rw [Exit.noGoto_ret]
                    go_ret3
                    exact DTakePost.nil HR.out rfl HKE.out
                · have g1 : decide (now < 1) = false := by simp; omega
                  have g2 : decide (20 < now) = false := by simp; omega
                  go_wp2_with fail
                  refine (dtake1 c r q s p 1 _ HCC.out HRD.out (by omega) (by omega) (by decide)).mono ?_
                  rintro e w4 hp4
                  by_cases hend : 8 * s.size ≤ p
                  · rw [K.takeR_end s p hend] at hp4
                    obtain ⟨rfl, -, hk4⟩ := hp4
                    have hR := HL.out
                    rw [List.drop_eq_nil_of_le (by rw [bitsOf_len]; exact hend), K.lens_end _ _ _ _ hlt1 hbad] at hR
                    have HR := Lib.hid hR.symm
                    have HK4 := Lib.hid (HKE.out.new hk4 (fun x hx => HFC.out x (by simp at hx; simp [hx])))
                    clear hR hk4
                    go_wp2_with fail
                    try rw [Exit.noGoto_ret]
                    go_ret3
                    exact DTakePost.nil HR.out rfl HK4.out
                  · rw [takeR_one s p (by omega)] at hp4
                    obtain ⟨rfl, hr4, hk4⟩ := hp4
                    have hr4 : Rd w4 r q s (p + 1) := hr4
                    have hdr := K.drop_bit s p (by omega)
                    have hap4 : Apart (foot (.slice ao acc.length co)) [r] := fun x hx hm => HAP.out x hx (by simp at hm; simp [hm])
                    have hrow4 := HROW.out.kept hk4 hap4
                    have hcc4 := hk4.heap HCC.out (by have := HCN.out c (by simp); simp at this; simp [this])
                    have HK4 := Lib.hid (HKE.out.new hk4 (fun x hx => HFC.out x (by simp at hx; simp [hx])))
                    have hsz4 := Nat.le_trans HKE.out.size hk4.size
                    clear hk4 hap4
                    cases htb : K.tbit s.data.toList p with
                    | false =>
                      rw [htb] at hdr
                      have hR := HL.out
                      rw [hdr, K.lens_zero _ _ _ _ _ hlt1 hbad] at hR
                      have HR := Lib.hid hR
                      have HR4 := Lib.hid hr4
                      have HC4 := Lib.hid hcc4
                      have L1 : (intVals acc).length + 1 ≤ maxLen := by rw [intVals_length]; simp only [maxLen]; omega
                      have L2 : ((intVals acc).length + 1) * 8 ≤ 140737488355328 := by rw [intVals_length]; omega
                      clear hdr hR htb hr4 hcc4
                      go_wp2_with ((at_builtin; refine wp_appL _ rfl _ _ 30 rfl 3 (.int .i64 0) 8 Try.underlying30 Try.infoInt rfl _ _ [.int .i64 now] 1 rfl rfl rfl rfl (by simp [Value.oneCell']) hrow4 L1 L2 ?_; intro a5 cap5 w5 hrow5 hk5 hg5))
                      go_roundg (8 * s.size - (p + 1))
                      case measure => have := Hk.out; omega
                      case rel =>
                        have hlc : ∀ x ∈ [c, r, q], x < w4.heap.size := by
                          intro x hx
                          rcases List.mem_cons.1 hx with rfl | hx
                          · exact lt_of_block HC4.out
                          · exact HR4.out.lt x hx
                        refine ⟨p + 1, acc ++ [now], now, by omega, by omega, rfl, rfl, hnow, by simp; omega, fun h => (by cases h), HR.out, HR4.out.kept hk5 (HAP.out.symm.sub (by simp)), ?_, hk5.heap HC4.out (HAP.out.symm c (by simp)), (HAP.out.symm.grow hlc hg5).symm, HK4.out.new hk5 HFR.out, HFR.out.grow hg5 hsz4⟩
                        have := hrow5
                        rw [show intVals (acc ++ [now]) = intVals acc ++ [.int .i64 now] by simp [intVals]]
                        exact this
                    | true =>
                      rw [htb] at hdr
                      have HR4 := Lib.hid hr4
                      have HC4 := Lib.hid hcc4
                      have HROW4 := Lib.hid hrow4
                      have HDR := Lib.hid hdr
                      clear hdr htb hr4 hcc4 hrow4
                      go_wp2_with fail
                      refine (dtake1 c r q s (p + 1) 1 _ HC4.out HR4.out (by omega) (by omega) (by decide)).mono ?_
                      rintro e w5 hp5
                      by_cases hend2 : 8 * s.size ≤ p + 1
                      · rw [K.takeR_end s (p + 1) hend2] at hp5
                        obtain ⟨rfl, -, hk5⟩ := hp5
                        have hR := HL.out
                        rw [HDR.out, List.drop_eq_nil_of_le (by rw [bitsOf_len]; exact hend2), K.lens_short _ _ _ _ hlt1 hbad] at hR
                        have HR := Lib.hid hR.symm
                        have HK5 := Lib.hid (HK4.out.new hk5 (fun x hx => HFC.out x (by simp at hx; simp [hx])))
                        clear hR hk5
                        go_wp2_with fail
                        try rw [Exit.noGoto_ret]
                        go_ret3
                        exact DTakePost.nil HR.out rfl HK5.out
                      · rw [takeR_one s (p + 1) (by omega)] at hp5
                        obtain ⟨rfl, hr5, hk5⟩ := hp5
                        have hr5 : Rd w5 r q s (p + 2) := hr5
                        have hdr2 := K.drop_bit s (p + 1) (by omega)
                        have hap5 : Apart (foot (.slice ao acc.length co)) [r] := fun x hx hm => HAP.out x hx (by simp at hm; simp [hm])
                        have hrow5 := HROW4.out.kept hk5 hap5
                        have hcc5 := hk5.heap HC4.out (by have := HCN.out c (by simp); simp at this; simp [this])
                        have HK5 := Lib.hid (HK4.out.new hk5 (fun x hx => HFC.out x (by simp at hx; simp [hx])))
                        have HR5 := Lib.hid hr5
                        have HC5 := Lib.hid hcc5
                        have HROW5 := Lib.hid hrow5
                        have hL5 := HL.out
                        rw [HDR.out, hdr2] at hL5
                        clear hk5 hap5 hr5 hcc5 hrow5 hdr2
                        cases htb : K.tbit s.data.toList (p + 1) with
                        | false =>
                          rw [htb, K.lens_up _ _ _ _ _ hlt1 hbad] at hL5
                          have HL5 := Lib.hid hL5
                          have hw1 : IntKind.i64.wrap (now + 1) = now + 1 := IntWalk.i64_in _ (by omega)
                          clear hL5 htb
                          go_wp2_with fail
                          go_roundg (8 * s.size - (p + 2))
                          case measure => have := Hk2.out; omega
                          case rel => exact ⟨p + 2, acc, now + 1, by omega, by omega, rfl, by go_num, by omega, hacc, fun _ => hlt1, HL5.out, HR5.out, HROW5.out, HC5.out, HAP.out, HK5.out, HFR.out⟩
                        | true =>
                          rw [htb, K.lens_down _ _ _ _ _ hlt1 hbad] at hL5
                          have HL5 := Lib.hid hL5
                          have hw1 : IntKind.i64.wrap (now + -1) = now + -1 := IntWalk.i64_in _ (by omega)
                          have hw2 : IntKind.i64.wrap (now - 1) = now - 1 := IntWalk.i64_in _ (by omega)
                          clear hL5 htb
                          go_wp2_with fail
                          go_roundg (8 * s.size - (p + 2))
                          case measure => have := Hk2.out; omega
                          case rel => exact ⟨p + 2, acc, now - 1, by omega, by omega, rfl, by go_num, by omega, hacc, fun _ => hlt1, HL5.out, HR5.out, HROW5.out, HC5.out, HAP.out, HK5.out, HFR.out⟩
            · have hR := hL
              have hdi : ¬ ((acc.length : Int) < (n : Int)) := by omega
              have c0 : wr.cell? ⟨c, 0, none⟩ = _ := cell_of_row wr c 0 _ _ _ hcc
              simp at c0
              rw [K.lens_done _ _ _ _ _ (by omega)] at hR
              have HR := Lib.hid hR.symm
              have HROW := Lib.hid hrow
              have HKE := Lib.hid hkept
              have HFR := Lib.hid hfr
              have HFO := Lib.hid hfo
              clear hR hL hrow hkept hfr hfo
              go_wp2_with fail
              refine (at_ok r q s p0 _ hrd).mono ?_
              rintro e w' ⟨rfl, rfl⟩
              go_wp2_with fail
              try rw [Exit.noGoto_ret]
              go_ret3
              rw [HR.out]
              exact ⟨ao, co, rfl, HROW.out, HKE.out, by have := HFR.out; rwa [← HFO.out] at this⟩
end Go.Proofs.Ytdaenajhgbagdaa
