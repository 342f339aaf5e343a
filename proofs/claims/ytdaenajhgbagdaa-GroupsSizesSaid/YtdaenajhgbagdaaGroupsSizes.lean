/-
  GroupsSizes: the walk.
-/
import Derived.Test.YtdaenajhgbagdaaAwakeG
import Derived.Test.YtdaenajhgbagdaaGrpP
namespace Go.Proofs.Ytdaenajhgbagdaa
open Go.RowKit
set_option linter.unusedVariables false
set_option linter.unusedSimpArgs false

set_option maxRecDepth 100000 in
set_option maxHeartbeats 2000000 in
theorem groupsSizes_walk (a : Option Addr) (len cap : Nat) (xs : List Int) (n : Int) (w : World)
    (h : Sees w 1 a len (xs.map (Value.int .i64)) ∧ xs.length = len ∧ len ≤ cap ∧ cap ≤ maxLen ∧ len ≤ 17592186043904 ∧ ∀ x ∈ xs, -9223372036854775808 ≤ x ∧ x ≤ 9223372036854775807) (hn : -9223372036854775808 ≤ n ∧ n ≤ 9223372036854775807) :
    Calls Try.prog 10 #[.slice a len cap, .int .i64 n] w fun e w' => e = .returned (.bool true) ∧ Kept [] w w' := by
  obtain ⟨hs, rfl, hc, hcm, hlen, -⟩ := h
  have hs : Sees w 1 a xs.length (intVals xs) := hs
  have HS := Lib.hid hs
  clear hs hn
  by_cases hbig : 3000 < xs.length
  · have g1 : decide (3000 < (xs.length : Int)) = true := by simp; omega
    go_enter Try.func10, Try.ntmps10
    go_wp2_with ((go_at_call 14; refine (awakeG _).mono ?_; rintro e w' ⟨rfl, hk⟩))
    go_ret
    exact ⟨rfl, by assumption⟩
  have g1 : decide (3000 < (xs.length : Int)) = false := by simp; omega
  have hll : xs.length ≤ 3000 := by omega
  have HC1 := Lib.hid (gbest_any a cap xs n w HS.out hc hcm (by omega))
  have HC2 := Lib.hid (fun (W : World) (hW : Kept [] w W) => gflat_any a cap xs n W (HS.out.kept0 hW) (by omega))
  cases hm : K.mayListL xs n with
  | false =>
    obtain ⟨q1, q2⟩ := best_bad xs n hm
    rw [q1] at HC1
    rw [q2] at HC2
    clear hm q1 q2 hbig
    go_enter Try.func10, Try.ntmps10
    go_wp2_with fail
    refine HC1.out.mono ?_
    rintro e w2 ⟨a1, c1, b1, d1, rfl, -, hk2, -, -⟩
    unfold planV
    have HK3 := Lib.hid (hk2.alloc (.cells #[.slice a1 0 c1, .slice b1 0 d1] 32))
    have HA3 := Lib.hid (Arr.new w2 [.slice a1 0 c1, .slice b1 0 d1] 32)
    have M := HC2.out _ HK3.out
    clear hk2 HC1 HC2
    go_wp2_with fail
    refine M.mono ?_
    rintro e w4 ⟨a2, c2, b2, d2, rfl, -, hk4, -, -⟩
    unfold planV
    have HK4 := Lib.hid (HK3.out.trans hk4 (by simp))
    have hA4 := HA3.out.kept hk4 (by simp)
    have x1 := hA4.lt
    have e1 := hA4.cell (i := 0) (u := .slice a1 0 c1) rfl
    have e2 := hA4.cell (i := 1) (u := .slice b1 0 d1) rfl
    clear hk4 hA4 M
    go_wp2_with ((go_at_call 14; refine (awakeG _).mono ?_; rintro e w' ⟨rfl, hk⟩))
    go_ret
    exact ⟨rfl, (HK4.out.alloc _).trans hk (by simp)⟩
  | true =>
    obtain ⟨hf, he, hle⟩ := best_fit xs n hm
    obtain ⟨hf2, he2⟩ := flat_fit xs n hm
    obtain ⟨-, -, -, -, -, hall⟩ := cnt_may hm
    obtain ⟨⟨T, P, E⟩, hR⟩ : ∃ R, bestGR xs n = R := ⟨_, rfl⟩
    obtain ⟨⟨U, Q, F⟩, hR2⟩ : ∃ R, flatGR xs n = R := ⟨_, rfl⟩
    rw [hR] at HC1 hf he hle
    rw [hR2] at HC2 hf2 he2 hle
    have he : E = 0 := he
    have he2 : F = 0 := he2
    subst he
    subst he2
    have hle : (K.sizeGR T P xs).1 ≤ (K.sizeGR U Q xs).1 := hle
    have hf : FitP T P xs n := hf
    have hf2 : FitP U Q xs n := hf2
    obtain ⟨B, -, hB⟩ := hf.codes hall
    obtain ⟨B2, -, hB2⟩ := hf2.codes hall
    have hpl := planBits_len hf.may
    have hBl := (codR_len T P xs).1
    rw [hB] at hBl
    have hBl : B.length ≤ 20 * xs.length := hBl
    have HZ1 := Lib.hid (show K.sizeGR T P xs = ((K.planBits T P).length + B.length, 0) by unfold K.sizeGR; rw [hB]; rfl)
    have hz2 : K.sizeGR U Q xs = ((K.planBits U Q).length + B2.length, 0) := by unfold K.sizeGR; rw [hB2]; rfl
    have HSH := Lib.hid (show K.showPR T P = (K.pack (K.planBits T P), (((K.planBits T P).length : Nat) : Int), 0) by unfold K.showPR; rw [hf.may]; rfl)
    have HPU := Lib.hid (show K.putGR T P xs = (K.pack B, ((B.length : Nat) : Int), 0) by unfold K.putGR; rw [hB]; rfl)
    have HFU := Lib.hid hf.full
    have HMY := Lib.hid hf.may
    rw [HZ1.out, hz2] at hle
    obtain ⟨S, hS⟩ : ∃ S, K.planBits T P = S := ⟨_, rfl⟩
    rw [hS] at HZ1 HSH hpl hle
    obtain ⟨Y, hY⟩ : ∃ Y, (K.planBits U Q).length + B2.length = Y := ⟨_, rfl⟩
    rw [hY] at hz2 hle
    have HZ2 := Lib.hid hz2
    have hle : S.length + B.length ≤ Y := hle
    clear hm hf hf2 hall hB hB2 hR hR2 hz2 hS hY hbig
    go_enter Try.func10, Try.ntmps10
    go_wp2_with fail
    refine HC1.out.mono ?_
    rintro e w2 ⟨a1, c1, b1, d1, rfl, hpl1, hk2, -, -⟩
    have HK2 := Lib.hid hk2
    have HP := Lib.hid hpl1
    clear hpl1 hk2 HC1
    unfold planV
    have hkA : Kept [] w2 (w2.alloc (.cells #[.slice a1 T.length c1, .slice b1 P.length d1] 32)) := (Kept.refl _ _).alloc _
    have hA := Arr.new w2 [.slice a1 T.length c1, .slice b1 P.length d1] 32
    have HP3 := Lib.hid (HP.out.kept hkA)
    have HK3 := Lib.hid (HK2.out.trans hkA (by simp))
    have HA3 := Lib.hid hA
    obtain ⟨g1, hg1⟩ : ∃ g, w2.heap.size = g := ⟨_, rfl⟩
    obtain ⟨W3, hW3⟩ : ∃ W, w2.alloc (.cells #[.slice a1 T.length c1, .slice b1 P.length d1] 32) = W := ⟨_, rfl⟩
    rw [hW3] at HP3 HK3 HA3
    rw [hg1] at HA3
    have HW := Lib.hid hW3
    have HG1 := Lib.hid hg1
    have M := HC2.out W3 HK3.out
    clear hkA hA hW3 hg1 HP HK2 HC2
    go_wp2_with fail
    rw [HW.out, HG1.out]
    refine M.mono ?_
    rintro e w4 ⟨a2, c2, b2, d2, rfl, hpl2, hk4, -, -⟩
    have HK4 := Lib.hid (HK3.out.trans hk4 (by simp))
    have HP4 := Lib.hid (HP3.out.kept hk4)
    have HA4 := Lib.hid (HA3.out.kept hk4 (by simp))
    have HQ := Lib.hid hpl2
    clear hpl2 hk4 M HW HG1 HP3 HK3 HA3
    unfold planV
    have hkA : Kept [] w4 (w4.alloc (.cells #[.slice a2 U.length c2, .slice b2 Q.length d2] 32)) := (Kept.refl _ _).alloc _
    have hA := Arr.new w4 [.slice a2 U.length c2, .slice b2 Q.length d2] 32
    have HP5 := Lib.hid (HP4.out.kept hkA)
    have HQ5 := Lib.hid (HQ.out.kept hkA)
    have HK5 := Lib.hid (HK4.out.trans hkA (by simp))
    have HA5 := Lib.hid (HA4.out.kept hkA (by simp))
    have HB5 := Lib.hid hA
    have x1 := HA4.out.lt
    obtain ⟨g2, hg2⟩ : ∃ g, w4.heap.size = g := ⟨_, rfl⟩
    obtain ⟨W5, hW5⟩ : ∃ W, w4.alloc (.cells #[.slice a2 U.length c2, .slice b2 Q.length d2] 32) = W := ⟨_, rfl⟩
    have e1 := HA5.out.cell (i := 0) (u := .slice a1 T.length c1) rfl
    have e2 := HA5.out.cell (i := 1) (u := .slice b1 P.length d1) rfl
    rw [hW5] at HP5 HQ5 HK5 HA5 HB5
    rw [hg2] at HB5
    have HW := Lib.hid hW5
    have HG2 := Lib.hid hg2
    have HX1 := Lib.hid (fun (W : World) (hW : Kept [] W5 W) => show Calls Try.prog 24 #[.agg #[.slice a1 T.length c1, .slice b1 P.length d1], .slice a xs.length cap] W (NumPost (S.length + B.length, 0) W) by
      rw [← HZ1.out]; exact gsize_any a1 b1 a c1 d1 cap T P xs W (HP5.out.kept hW) (HS.out.kept0 (HK5.out.trans hW (by simp))) (by omega))
    have HX2 := Lib.hid (fun (W : World) (hW : Kept [] W5 W) => show Calls Try.prog 24 #[.agg #[.slice a2 U.length c2, .slice b2 Q.length d2], .slice a xs.length cap] W (NumPost (Y, 0) W) by
      rw [← HZ2.out]; exact gsize_any a2 b2 a c2 d2 cap U Q xs W (HQ5.out.kept hW) (HS.out.kept0 (HK5.out.trans hW (by simp))) (by omega))
    have HX3 := Lib.hid (fun (W : World) (hW : Kept [] W5 W) => show Calls Try.prog 16 #[.agg #[.slice a1 T.length c1, .slice b1 P.length d1]] W (BitsPost (K.pack S, ((S.length : Nat) : Int), 0) W) by
      rw [← HSH.out]; exact gshow_good a1 b1 c1 d1 T P W (HP5.out.kept hW) HMY.out)
    have HX4 := Lib.hid (fun (W : World) (hW : Kept [] W5 W) => show Calls Try.prog 22 #[.agg #[.slice a1 T.length c1, .slice b1 P.length d1], .slice a xs.length cap] W (BitsPost2 (K.pack B, ((B.length : Nat) : Int), 0) W) by
      rw [← HPU.out]; exact gput_any a1 b1 a c1 d1 cap T P xs W (HP5.out.kept hW) (HS.out.kept0 (HK5.out.trans hW (by simp))) (by omega))
    have M := HX1.out W5 (Kept.refl _ _)
    clear hkA hA hW5 hg2 HP4 HQ HK4 HA4 HSH HPU HZ1 HZ2
    go_wp2_with fail
    rw [HW.out, HG2.out]
    clear x1 e1 e2
    refine M.mono ?_
    rintro e w6 ⟨rfl, hk6⟩
    have HK6 := Lib.hid hk6
    have e3 := (HB5.out.kept hk6 (by simp)).cell (i := 0) (u := .slice a2 U.length c2) rfl
    have e4 := (HB5.out.kept hk6 (by simp)).cell (i := 1) (u := .slice b2 Q.length d2) rfl
    have M := HX2.out w6 HK6.out
    clear hk6 HX1 HG2 HW
    go_wp2_with fail
    clear e3 e4
    refine M.mono ?_
    rintro e w7 ⟨rfl, hk7⟩
    have HK7 := Lib.hid (show Kept [] W5 w7 from HK6.out.trans hk7 (by simp))
    have e1 := (HA5.out.kept HK7.out (by simp)).cell (i := 0) (u := .slice a1 T.length c1) rfl
    have e2 := (HA5.out.kept HK7.out (by simp)).cell (i := 1) (u := .slice b1 P.length d1) rfl
    have M := HX3.out w7 HK7.out
    clear hk7 HX2
    go_wp2_with fail
    clear e1 e2
    refine M.mono ?_
    rintro e w8 ⟨rfl, hk8⟩
    unfold bitsV
    have HK8 := Lib.hid (show Kept [] W5 w8 from HK7.out.trans hk8 (by simp))
    have hkC : Kept [] w8 (w8.alloc (.cells #[.string ⟨(K.pack S).toArray⟩, .int .i64 (S.length : Nat)] 35)) := (Kept.refl _ _).alloc _
    have HC9 := Lib.hid (Arr.new w8 [.string ⟨(K.pack S).toArray⟩, .int .i64 (S.length : Nat)] 35)
    have HK9 := Lib.hid (HK8.out.trans hkC (by simp))
    have hA9 := HA5.out.kept HK9.out (by simp)
    have x1 := (HA5.out.kept HK8.out (by simp)).lt
    have e1 := hA9.cell (i := 0) (u := .slice a1 T.length c1) rfl
    have e2 := hA9.cell (i := 1) (u := .slice b1 P.length d1) rfl
    have M := HX4.out _ HK9.out
    clear hk8 hkC hA9 HX3
    go_wp2_with fail
    clear e1 e2
    refine M.mono ?_
    rintro e w10 ⟨rfl, hk10⟩
    unfold bitsV
    have HK10 := Lib.hid (show Kept [] W5 w10 from HK9.out.trans hk10 (by simp))
    have hC10 := HC9.out.kept hk10 (by simp)
    have x2 := hC10.lt
    have e5 := hC10.cell (i := 1) (u := .int .i64 (S.length : Nat)) rfl
    have HKD := Lib.hid ((Kept.refl [] w10).alloc (.cells #[.string ⟨(K.pack B).toArray⟩, .int .i64 (B.length : Nat)] 35))
    have HKF := Lib.hid (HK10.out.trans HKD.out (by simp))
    have HAF := Lib.hid (HA5.out.kept HKF.out (by simp))
    have HPF := Lib.hid (HP5.out.kept HKF.out)
    have q1 : decide ((Y : Int) < (S.length : Int) + (B.length : Int)) = false := by simp; omega
    clear hk10 hC10 HX4 x1
    have hlx : w8.heap.size < w10.heap.size := x2
    go_wp2_with fail
    obtain ⟨WF, hWF⟩ : ∃ WF, w10.alloc (.cells #[.string ⟨(K.pack B).toArray⟩, .int .i64 (B.length : Nat)] 35) = WF := ⟨_, rfl⟩
    rw [hWF] at HKD HKF HAF HPF ⊢
    clear hWF HKD e5 hlx x2 HK10 HC9 HK9 HK8
    have htl := HPF.out.tl
    go_loopg [17] T.length (fun k v wr => ∃ t : Nat, k = T.length - t ∧ t ≤ T.length ∧ v = .int .i64 (t : Nat) ∧ Hid (Kept [] WF wr))
    case atStart => exact ⟨0, by omega, by omega, rfl, Lib.hid (Kept.refl _ _)⟩
    case round =>
      obtain ⟨t, hk, ht, rfl, HKW⟩ := hrel
      have Hk := Lib.hid hk
      clear hk
      have d0 := (HAF.out.kept HKW.out (by simp)).cell (i := 0) (u := .slice a1 T.length c1) rfl
      by_cases hlt : t < T.length
      · have hli : (t : Int) < (T.length : Int) := by omega
        obtain ⟨row, hrow⟩ : ∃ r, T[t]? = some r := ⟨_, List.getElem?_eq_getElem hlt⟩
        obtain ⟨bT, oT, ar, cr, rfl, e0, hsr, -⟩ := (HPF.out.kept HKW.out).tabs.int hrow
        have hrl := HPF.out.rl row (List.mem_of_getElem? hrow)
        have M := full_any ar cr row wr hsr hrl
        rw [HFU.out row (List.mem_of_getElem? hrow)] at M
        have HM := Lib.hid M
        clear hrow hsr M
        go_wp2_with fail
        refine HM.out.mono ?_
        rintro e w11 ⟨rfl, rfl⟩
        have HK11 := HKW
        clear d0 e0
        go_wp2_with fail
        go_roundg (T.length - (t + 1))
        case measure => have := Hk.out; omega
        case rel => exact ⟨t + 1, rfl, by omega, by simp, HK11⟩
      · obtain rfl : t = T.length := by omega
        have hll2 : ¬ (T.length : Int) < (T.length : Int) := by omega
        go_wp2_with ((go_at_call 14; refine (awakeG _).mono ?_; rintro e w' ⟨rfl, hk⟩))
        go_ret
        exact ⟨rfl, HK5.out.trans (HKF.out.trans (HKW.out.trans hk (by simp)) (by simp)) (by simp)⟩
end Go.Proofs.Ytdaenajhgbagdaa
