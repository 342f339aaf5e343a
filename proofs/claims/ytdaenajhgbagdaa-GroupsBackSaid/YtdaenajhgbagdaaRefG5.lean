/-
  The walks of layer 11's references Codes, Put, Size, and of groups.Size.
-/
import Derived.Test.YtdaenajhgbagdaaRefG4
import Derived.Test.YtdaenajhgbagdaaGrpI
namespace Go.Proofs.Ytdaenajhgbagdaa
open Go.RowKit
set_option linter.unusedVariables false
set_option linter.unusedSimpArgs false

/-- In Codes's second loop: i symbols are told. -/
def RCodB (W : World) (T : List (List Int)) (P L : List Int) (n : Nat) (k : Nat) (vo v : Value) (wr : World) : Prop :=
  ∃ (i : Nat) (B : List Bool) (ao : Option Addr) (co : Nat), k = L.length - i ∧ i ≤ L.length ∧ v = .int .i64 (i : Nat) ∧ vo = .slice ao B.length co ∧ B.length ≤ 20 * i ∧ Hid (K.codG T P n 0 (L.take i) = some B) ∧ Hid (Row wr 3 (.slice ao B.length co) (bis B)) ∧ Hid (Kept [] W wr) ∧ Hid (Fresh W.heap.size (footA ao))
theorem codR_none {T : List (List Int)} {P L : List Int} {t0 : List Int} {s : Int} (h1 : K.mayPlan T P = true) (h2 : K.groupsN L.length ≤ P.length) (h3 : T.getD 0 [] = t0) (hs : s ∈ L) (hb : s < 0 ∨ (t0.length : Int) ≤ s) : K.codR T P L = ([], 60) := by
  unfold K.codR
  rw [h1, decide_eq_true h2, h3, K.codG_none T P _ L 0 ⟨s, hs, hb⟩]
  rfl
set_option maxRecDepth 100000 in
set_option maxHeartbeats 2000000 in
theorem rcodesG_any (aT aP aL : Option Addr) (cT cP cL : Nat) (T : List (List Int)) (P L : List Int) (w : World) (h : PlanAt w aT aP cT cP T P) (hL : Sees w 1 aL L.length (intVals L)) (hl : L.length ≤ 10000000) :
    Calls Try.prog 54 #[planV aT T.length cT aP P.length cP, .slice aL L.length cL] w (BoolsPost (K.codR T P L) w) := by
  have hk : Kept [] w (w.alloc (.cells #[.slice aT T.length cT, .slice aP P.length cP] 32)) := (Kept.refl [] w).alloc _
  have p1 := h.kept hk
  have l1 := hL.kept0 hk
  have hA := Arr.new w [.slice aT T.length cT, .slice aP P.length cP] 32
  unfold planV
  have b0 := hA.cell (i := 0) (u := .slice aT T.length cT) rfl
  have b1 := hA.cell (i := 1) (u := .slice aP P.length cP) rfl
  have HK := Lib.hid hk
  have HA := Lib.hid hA
  have HPL := Lib.hid p1
  have HL := Lib.hid l1
  clear hA p1 h l1 hL hk
  obtain ⟨bb, hbb⟩ : ∃ bb, K.mayPlan T P = bb := ⟨_, rfl⟩
  have HBB := Lib.hid hbb
  have hgn : K.groupsN L.length ≤ 10000000 := by unfold K.groupsN; omega
  obtain ⟨gn, hgg⟩ : ∃ gn, K.groupsN L.length = gn := ⟨_, rfl⟩
  have HGG := Lib.hid hgg
  have HM := Lib.hid (fun W (hW : Kept [] (w.alloc (.cells #[.slice aT T.length cT, .slice aP P.length cP] 32)) W) => show Calls Try.prog 49 #[.agg #[.slice aT T.length cT, .slice aP P.length cP]] W (KBool bb W) by
    have p := HPL.out.kept hW
    rw [← hbb]; exact grmay_any aT aP cT cP T P W p.tabs p.picks p.tl p.pl p.rl)
  have HGC := Lib.hid (fun W => show Calls Try.prog 71 #[.int .i64 L.length] W (fun e w' => e = .returned (.int .i64 (gn : Nat)) ∧ W = w') by rw [← hgg]; exact rgroups_any L.length W (by omega))
  rw [hgg] at hgn
  clear hgg
  obtain ⟨W, hW⟩ : ∃ W, w.alloc (.cells #[.slice aT T.length cT, .slice aP P.length cP] 32) = W := ⟨_, rfl⟩
  have HW := Lib.hid hW
  rw [hW] at b0 b1 HK HA HPL HL HM
  clear hW hbb
  cases bb with
  | false =>
    have HR := Lib.hid (show K.codR T P L = ([], 110) by unfold K.codR; rw [HBB.out]; rfl)
    go_enter Try.func54, Try.ntmps54
    go_wp2_with fail
    rw [HW.out]
    refine wp_region_held_drew (S := fun w' => Kept [] W w' ∧ w'.cell? ⟨w.heap.size, 0, none⟩ = some (.slice aT T.length cT) ∧ w'.cell? ⟨w.heap.size, 1, none⟩ = some (.slice aP P.length cP)) (by kernel_rfl) ⟨(Kept.refl _ _).drew, b0, b1⟩ (fun hHeld => ?_)
    refine held_take 0 10 (.agg #[.slice aT T.length cT, .slice aP P.length cP]) (by kernel_rfl) (by kernel_rfl) (by kernel_rfl) (by kernel_rfl) (fun _ _ _ h => h) (by kernel_rfl) (by intro o ho w hSw; simp at ho; subst ho; go_simp) hHeld ?_
    simp only [Act.put, List.setIfInBounds_toArray, List.set_cons_zero, List.set_cons_succ]
    refine wpAnyH_ready (rs := [1]) (by kernel_rfl) (by simp) ?_
    refine AllReadyH.cons rfl (fun K hK => ?_) AllReadyH.nil
    go_simp
    refine (HM.out _ (Kept.refl [] W).drew).mono ?_
    rintro e w3 ⟨rfl, hk3'⟩
    have hk3 : Kept [] W w3 := (Kept.refl [] W).drew.trans hk3' (by simp)
    go_wp2_with fail
    refine hK.out _ _ ⟨hk3, hk3.cellOf b0 (by simp), hk3.cellOf b1 (by simp)⟩ (fun hHeld => ?_)
    clear hK K
    refine held_take 2 12 (.bool true) (by kernel_rfl) (by kernel_rfl) (by kernel_rfl) (by kernel_rfl) (fun _ _ _ h => h) (by kernel_rfl) (by intro o ho w hSw; simp at ho; subst ho; go_simp) hHeld ?_
    simp only [Act.put, List.setIfInBounds_toArray, List.set_cons_zero, List.set_cons_succ]
    refine held_take 3 13 (.bool true) (by kernel_rfl) (by kernel_rfl) (by kernel_rfl) (by kernel_rfl) (fun _ _ _ h => h) (by kernel_rfl) (by intro o ho w hSw; simp at ho; subst ho; go_simp) hHeld ?_
    simp only [Act.put, List.setIfInBounds_toArray, List.set_cons_zero, List.set_cons_succ]
    refine held_skip 4 14 (by kernel_rfl) (by kernel_rfl) (by kernel_rfl) (by kernel_rfl) (fun _ _ _ h => h) (by kernel_rfl) hHeld ?_
    simp only [Act.put, List.setIfInBounds_toArray, List.set_cons_zero, List.set_cons_succ]
    refine held_skip 5 15 (by kernel_rfl) (by kernel_rfl) (by kernel_rfl) (by kernel_rfl) (fun _ _ _ h => h) (by kernel_rfl) hHeld ?_
    simp only [Act.put, List.setIfInBounds_toArray, List.set_cons_zero, List.set_cons_succ]
    refine held_skip 6 16 (by kernel_rfl) (by kernel_rfl) (by kernel_rfl) (by kernel_rfl) (fun _ _ _ h => h) (by kernel_rfl) hHeld ?_
    simp only [Act.put, List.setIfInBounds_toArray, List.set_cons_zero, List.set_cons_succ]
    refine held_skip 7 17 (by kernel_rfl) (by kernel_rfl) (by kernel_rfl) (by kernel_rfl) (fun _ _ _ h => h) (by kernel_rfl) hHeld ?_
    simp only [Act.put, List.setIfInBounds_toArray, List.set_cons_zero, List.set_cons_succ]
    refine held_skip 8 18 (by kernel_rfl) (by kernel_rfl) (by kernel_rfl) (by kernel_rfl) (fun _ _ _ h => h) (by kernel_rfl) hHeld ?_
    simp only [Act.put, List.setIfInBounds_toArray, List.set_cons_zero, List.set_cons_succ]
    refine held_skip 9 19 (by kernel_rfl) (by kernel_rfl) (by kernel_rfl) (by kernel_rfl) (fun _ _ _ h => h) (by kernel_rfl) hHeld ?_
    simp only [Act.put, List.setIfInBounds_toArray, List.set_cons_zero, List.set_cons_succ]
    refine held_skip 10 20 (by kernel_rfl) (by kernel_rfl) (by kernel_rfl) (by kernel_rfl) (fun _ _ _ h => h) (by kernel_rfl) hHeld ?_
    simp only [Act.put, List.setIfInBounds_toArray, List.set_cons_zero, List.set_cons_succ]
    refine held_take 11 21 (.bool true) (by kernel_rfl) (by kernel_rfl) (by kernel_rfl) (by kernel_rfl) (fun _ _ _ h => h) (by kernel_rfl) (by intro o ho w hSw; simp at ho; subst ho; go_simp) hHeld ?_
    simp only [Act.put, List.setIfInBounds_toArray, List.set_cons_zero, List.set_cons_succ]
    refine wpAnyH_done (by kernel_rfl) ?_ _
    have HK3 := Lib.hid (HK.out.trans hk3 (by simp))
    clear hk3 b0 b1
    go_wp2_with fail
    go_ret2
    rw [HR.out]
    exact ⟨none, 0, rfl, Row.nil _ _, HK3.out⟩
  | true =>
    by_cases hmany : P.length < gn
    · have g1 : decide ((P.length : Int) < (gn : Int)) = true := by simp; omega
      have HR := Lib.hid (show K.codR T P L = ([], 110) by unfold K.codR; rw [HBB.out, decide_eq_false (by rw [HGG.out]; omega)]; rfl)
      go_enter Try.func54, Try.ntmps54
      go_wp2_with fail
      rw [HW.out]
      go_region_held3 (fun w' => Kept [] W w' ∧ w'.cell? ⟨w.heap.size, 0, none⟩ = some (.slice aT T.length cT) ∧ w'.cell? ⟨w.heap.size, 1, none⟩ = some (.slice aP P.length cP))
        (first | exact ⟨(Kept.refl _ _).drew, b0, b1⟩ | exact ⟨hk3, hk3.cellOf b0 (by simp), hk3.cellOf b1 (by simp)⟩)
        (first | (go_at_call 49; refine (HM.out _ (Kept.refl [] W).drew).mono ?_; rintro e w3 ⟨rfl, hk3'⟩; have hk3 : Kept [] W w3 := (Kept.refl [] W).drew.trans hk3' (by simp)) | (go_at_call 71; refine (HGC.out _).mono ?_; rintro e w4 ⟨rfl, rfl⟩))
      rename_i hS
      clear hS
      have HK3 := Lib.hid (HK.out.trans hk3 (by simp))
      clear hk3 b0 b1
      go_wp2_with fail
      go_ret2
      rw [HR.out]
      exact ⟨none, 0, rfl, Row.nil _ _, HK3.out⟩
    · have g1 : ¬ P.length < gn := hmany
      obtain ⟨hT, hP, hTab, hPick⟩ := K.mayPlan_get HBB.out
      have HTAB := Lib.hid hTab
      have HPICK := Lib.hid hPick
      obtain ⟨t0, ht0⟩ : ∃ t, T[0]? = some t := ⟨_, List.getElem?_eq_getElem (by omega)⟩
      have HT0 := Lib.hid (show T.getD 0 [] = t0 by rw [List.getD, ht0]; rfl)
      have ht0l := HPL.out.rl t0 (List.mem_of_getElem? ht0)
      have ht03 := (HTAB.out t0 (List.mem_of_getElem? ht0)).2.1
      have HTI := Lib.hid ht0
      have hTpos : (0 : Int) < (T.length : Int) := by omega
      have HGN := Lib.hid (show K.groupsN L.length ≤ P.length by rw [HGG.out]; omega)
      have HLL := Lib.hid (show L.length ≤ 50 * P.length by have := HGG.out; unfold K.groupsN at this; omega)
      clear ht0 hTab hPick hmany
      go_enter Try.func54, Try.ntmps54
      go_wp2_with fail
      rw [HW.out]
      go_region_held3 (fun w' => Kept [] W w' ∧ w'.cell? ⟨w.heap.size, 0, none⟩ = some (.slice aT T.length cT) ∧ w'.cell? ⟨w.heap.size, 1, none⟩ = some (.slice aP P.length cP))
        (first | exact ⟨(Kept.refl _ _).drew, b0, b1⟩ | exact ⟨hk3, hk3.cellOf b0 (by simp), hk3.cellOf b1 (by simp)⟩)
        (first | (go_at_call 49; refine (HM.out _ (Kept.refl [] W).drew).mono ?_; rintro e w3 ⟨rfl, hk3'⟩; have hk3 : Kept [] W w3 := (Kept.refl [] W).drew.trans hk3' (by simp)) | (go_at_call 71; refine (HGC.out _).mono ?_; rintro e w4 ⟨rfl, rfl⟩))
      rename_i hS
      clear hS
      have HK3 := Lib.hid (HK.out.trans hk3 (by simp))
      have HA3 := Lib.hid (HA.out.kept hk3 (by simp))
      have HPL3 := Lib.hid (HPL.out.kept hk3)
      have HL3 := Lib.hid (HL.out.kept0 hk3)
      clear hk3 hk3' b0 b1 HM HGC
      go_wp2_with fail
      go_loopg [7, 8] T.length (fun k vt v wr => RTabs w3 T k vt v wr)
      case atStart => exact ⟨0, [], none, 0, by omega, by omega, rfl, rfl, Lib.hid (Row.nil _ _), Lib.hid (Tabs3.nil _ _), Lib.hid (Kept.refl _ _), Lib.hid (by simp [Fresh, footA])⟩
      case round =>
        obtain ⟨i, vs, a9, c9, hk, hi, rfl, rfl, HRW, HT3, HKW, HF⟩ := hrel
        have Hk := Lib.hid hk
        clear hk
        have d0 := (HA3.out.kept HKW.out (by simp)).cell (i := 0) (u := .slice aT T.length cT) rfl
        by_cases hlt : i < T.length
        · have hli : (i : Int) < (T.length : Int) := by omega
          obtain ⟨t, ht⟩ : ∃ t, T[i]? = some t := ⟨_, List.getElem?_eq_getElem hlt⟩
          obtain ⟨bT, oT, ar, cr, rfl, e0, hsr, -⟩ := (HPL3.out.kept HKW.out).tabs.int ht
          have hgt := (HTAB.out t (List.mem_of_getElem? ht)).2.2
          have HC := Lib.hid (rtable_new ar cr t wr hsr hgt)
          have HTI2 := Lib.hid ht
          clear ht hsr hgt
          go_wp2_with fail
          refine HC.out.mono ?_
          rintro e w5 ⟨g5, rfl, hk5, hs5⟩
          have HK5 := Lib.hid hk5
          have HS5 := Lib.hid hs5
          have hrow5 := HRW.out.kept hk5 (by simp)
          have hvl := HRW.out.len
          have L1 : vs.length + 1 ≤ maxLen := by rw [hvl]; simp only [maxLen]; omega
          have L2 : (vs.length + 1) * 24 ≤ 140737488355328 := by rw [hvl]; omega
          clear hk5 hs5 hvl
          go_wp2_with ((at_builtin; refine wp_appL _ rfl _ _ 82 rfl 29 (.slice none 0 0) 24 Try.underlying82 Try.infoRows rfl _ _ [.slice (some ⟨g5, 0, none⟩) t.length t.length] 1 rfl rfl rfl rfl (by simp [Value.oneCell']) hrow5 L1 L2 ?_; intro a6 cap6 w6 hrow6 hk6 hg6))
          go_roundg (T.length - (i + 1))
          case measure => have := Hk.out; omega
          case rel =>
            have hvl := HRW.out.len
            obtain ⟨r1, r2, r3, r4⟩ := rtabs_next HTI2.out rfl HRW.out HT3.out HKW.out HF.out HK5.out HS5.out hrow6 hk6 hg6
            exact ⟨i + 1, _, a6, cap6, rfl, by omega, by simp, by rw [hvl], Lib.hid r1, Lib.hid r2, Lib.hid r3, Lib.hid r4⟩
        · obtain rfl : i = T.length := by omega
          have hll : ¬ (T.length : Int) < (T.length : Int) := by omega
          obtain ⟨wt, rfl⟩ : ∃ wo : World, wo = wr := ⟨_, rfl⟩
          have ht3 := HT3.out
          rw [List.take_length] at ht3
          have HTT := Lib.hid ht3
          clear ht3 HT3 Hk
          go_wp2_with fail
          clear d0
          go_loopg [6, 9] L.length (fun k vo v wr => RCodB wt T P L t0.length k vo v wr)
          case atStart => exact ⟨0, [], none, 0, by omega, by omega, rfl, rfl, by simp, Lib.hid (by rw [List.take_zero, K.codG]), Lib.hid (Row.nil _ _), Lib.hid (Kept.refl _ _), Lib.hid (by simp [Fresh, footA])⟩
          case round =>
            obtain ⟨i, B, ao, co, hk, hi, rfl, rfl, hBl, HC, HRO, HKO, HFO⟩ := hrel
            have Hk := Lib.hid hk
            clear hk
            have HKX := Lib.hid (HKW.out.trans HKO.out (by simp))
            by_cases hlt : i < L.length
            · have hli : (i : Int) < (L.length : Int) := by omega
              obtain ⟨s, hs⟩ : ∃ s, L[i]? = some s := ⟨_, List.getElem?_eq_getElem hlt⟩
              obtain ⟨bL, oL, rfl, -⟩ := HL3.out.at (by rw [intVals_length]; omega)
              have d0 := (HL3.out.kept0 HKX.out).int hs
              have d1 := (HA3.out.kept HKX.out (by simp)).cell (i := 0) (u := .slice aT T.length cT) rfl
              obtain ⟨bT, oT, ar, cr, rfl, e0, -, -⟩ := (HPL3.out.kept HKX.out).tabs.int HTI.out
              rw [Nat.add_zero] at e0
              have HSI := Lib.hid hs
              clear hs
              by_cases hb0 : s < 0
              · have q1 : decide (s < 0) = true := decide_eq_true hb0
                have HR := Lib.hid (codR_none HBB.out HGN.out HT0.out (List.mem_of_getElem? HSI.out) (.inl hb0))
                clear hb0
                go_wp2_with fail
                go_quiet (fail)
                go_wp2_with fail
                go_ret2
                rw [HR.out]
                exact ⟨none, 0, rfl, Row.nil _ _, HK3.out.trans (HKX.out.drewN _) (by simp)⟩
              · have q1 : decide (s < 0) = false := decide_eq_false hb0
                by_cases hb1 : (t0.length : Int) ≤ s
                · have q2 : decide ((t0.length : Int) ≤ s) = true := decide_eq_true hb1
                  have HR := Lib.hid (codR_none HBB.out HGN.out HT0.out (List.mem_of_getElem? HSI.out) (.inr hb1))
                  clear hb0 hb1
                  go_wp2_with fail
                  go_quiet (fail)
                  go_wp2_with fail
                  go_ret2
                  rw [HR.out]
                  exact ⟨none, 0, rfl, Row.nil _ _, HK3.out.trans (HKX.out.drewN _) (by simp)⟩
                · have q2 : decide ((t0.length : Int) ≤ s) = false := decide_eq_false hb1
                  have HS0 := Lib.hid (show 0 ≤ s ∧ s < (t0.length : Int) by omega)
                  clear hb0 hb1
                  go_wp2_with fail
                  go_quiet (fail)
                  go_wp2_with fail
                  obtain ⟨hs0, hs1⟩ := HS0.out
                  obtain ⟨s, rfl⟩ := Int.eq_ofNat_of_zero_le hs0
                  have hkq : Kept [] wr (wr.drewN nq) := (Kept.refl [] wr).drewN nq
                  have HRO2 := Lib.hid (HRO.out.kept hkq (by simp))
                  have HKO2 := Lib.hid (HKO.out.trans hkq (by simp))
                  have HKX2 := Lib.hid (HKX.out.trans hkq (by simp))
                  obtain ⟨WQ, hWQ⟩ : ∃ WQ, wr.drewN nq = WQ := ⟨_, rfl⟩
                  rw [hWQ] at HRO2 HKO2 HKX2 ⊢
                  clear d0 d1 e0 q1 q2 hkq hWQ HRO HKO HKX
                  have hPi : i / 50 < P.length := by have := HLL.out; omega
                  obtain ⟨x, hx⟩ : ∃ x, P[i / 50]? = some x := ⟨_, List.getElem?_eq_getElem hPi⟩
                  obtain ⟨hx0, hxT⟩ := HPICK.out x (List.mem_of_getElem? hx)
                  obtain ⟨x, rfl⟩ := Int.eq_ofNat_of_zero_le hx0
                  obtain ⟨t, ht⟩ : ∃ t, T[x]? = some t := ⟨_, List.getElem?_eq_getElem (by omega)⟩
                  obtain ⟨htl, ht3, htg⟩ := HTAB.out t (List.mem_of_getElem? ht)
                  rw [HT0.out] at htl
                  have hsl : s < t.length := by omega
                  obtain ⟨ls, hls⟩ : ∃ ls, K.natsOf t = ls := ⟨_, rfl⟩
                  have hlsl : ls.length = t.length := by rw [← hls, K.natsOf_length]
                  have hgd := K.goodL_in htg
                  rw [hls] at hgd
                  obtain ⟨m, hm⟩ : ∃ m, ls.getD s 0 = m := ⟨_, rfl⟩
                  have hm20 : 1 ≤ m ∧ m ≤ 20 := by
                    have hmm : ls.getD s 0 ∈ ls := by rw [List.getD, List.getElem?_eq_getElem (by omega)]; exact List.getElem_mem (by omega)
                    rw [hm] at hmm
                    exact hgd _ hmm
                  have hsy : K.symP (K.tabAt T P i) s = K.symP ls s := by
                    unfold K.tabAt
                    rw [show P.getD (i / 50) 0 = (x : Int) by rw [List.getD, hx]; rfl, Int.toNat_natCast, show T.getD x [] = t by rw [List.getD, ht]; rfl, hls]
                  have hbl : (bis (K.symP ls s)).length = m := by rw [bis_length, K.symP_length, hm]
                  obtain ⟨bP, oP, rfl, -⟩ := HPL3.out.picks.at (by rw [intVals_length]; omega)
                  have y0 := (HL3.out.kept0 HKW.out).int HSI.out
                  have y1 := (HA3.out.kept HKW.out (by simp)).cell (i := 1) (u := .slice (some ⟨bP, oP, none⟩) P.length cP) rfl
                  have y2 := (HPL3.out.kept HKW.out).picks.int hx
                  obtain ⟨gt, hvx, hst⟩ := HTT.out.at (codT_get ht)
                  have hRW := HRW.out
                  obtain ⟨bV, cV, hv9, -, -, -, -⟩ := hRW.open (by rw [hRW.len]; omega)
                  injection hv9 with e1 e2 e3
                  subst e1
                  clear e2 e3
                  have y3 := hRW.cellAt hvx
                  have htb : (K.tabP (K.natsOf t)).length = t.length := by rw [K.tabP_length, K.natsOf_length]
                  rw [htb] at y3
                  obtain ⟨b', off', ar', c', ha, y4, hsr, hrc, hcm⟩ := hst.at s (bis (K.symP ls s)) (by rw [hls, List.getElem?_map, K.tabP_get ls s (by omega)]; rfl)
                  injection ha with ha
                  injection ha with h1 h2
                  subst h1 h2
                  rw [Nat.zero_add, hbl] at y4
                  rw [hbl] at hsr hrc
                  obtain ⟨br, orr, rfl, -⟩ := hsr.at (by rw [hbl]; omega)
                  obtain ⟨j, hj⟩ : ∃ j, i / 50 = j := ⟨_, rfl⟩
                  have hje : (i : Int) / 50 = (j : Int) := by omega
                  rw [hj] at y2 hPi
                  have hjP : (j : Int) < (P.length : Int) := by omega
                  have hj0 : (0 : Int) ≤ (j : Int) := by omega
                  have hjq : (i : Int).tdiv 50 = (j : Int) := by rw [Int.tdiv_eq_ediv_of_nonneg (by omega)]; exact hje
                  have hjw : IntKind.i64.wrap (j : Int) = (j : Int) := IntWalk.i64_in _ (by omega)
                  have hjw2 : IntKind.i64.wrap ((i : Int).tdiv 50) = (j : Int) := by rw [hjq]; exact hjw
                  have hxTl : (x : Int) < (T.length : Int) := by omega
                  have hsli : (s : Int) < (t.length : Int) := by omega
                  have HSR := Lib.hid (hsr.kept0 HKO2.out)
                  have HCELL := Lib.hid (And.intro y0 (And.intro y1 (And.intro y2 (And.intro y3 y4))))
                  have d0 := HKO2.out.cellOf y0 (by simp)
                  have d1 := HKO2.out.cellOf y1 (by simp)
                  have d2 := HKO2.out.cellOf y2 (by simp)
                  have d3 := HKO2.out.cellOf y3 (by simp)
                  have d4 := HKO2.out.cellOf y4 (by simp)
                  have HFF := Lib.hid (show Fresh wt.heap.size (foot (.slice ao B.length co)) by rw [foot_slice]; exact HFO.out)
                  have HSY := Lib.hid hsy
                  have HBN := Lib.hid hbl
                  have L1 : (bis B).length + m ≤ maxLen := by rw [bis_length]; simp only [maxLen]; omega
                  have L2 : ((bis B).length + m) * 8 ≤ 140737488355328 := by rw [bis_length]; omega
                  have HONE := Lib.hid (bis_oneC (K.symP ls s))
                  have HROW := Lib.hid HRO2.out
                  clear hj hx ht hls hm htg htl hgd hvx hst hsr hsy hbl htb hRW hx0 hs0 y0 y1 y2 y3 y4
                  go_wp2_with fail
                  go_region_held3 (fun w' => w'.cell? ⟨bL, oL + i, none⟩ = some (.int .i64 (s : Int)) ∧ w'.cell? ⟨w.heap.size, 1, none⟩ = some (.slice (some ⟨bP, oP, none⟩) P.length cP) ∧ w'.cell? ⟨bP, oP + j, none⟩ = some (.int .i64 (x : Int)) ∧ w'.cell? ⟨bV, x, none⟩ = some (.slice (some ⟨gt, 0, none⟩) t.length t.length) ∧ w'.cell? ⟨gt, s, none⟩ = some (.slice (some ⟨br, orr, none⟩) m c'))
                    (first | exact ⟨d0, d1, d2, d3, d4⟩ | exact ⟨(HKO2.out.drew.new hk6 HFF.out).cellOf HCELL.out.1 (by simp), (HKO2.out.drew.new hk6 HFF.out).cellOf HCELL.out.2.1 (by simp), (HKO2.out.drew.new hk6 HFF.out).cellOf HCELL.out.2.2.1 (by simp), (HKO2.out.drew.new hk6 HFF.out).cellOf HCELL.out.2.2.2.1 (by simp), (HKO2.out.drew.new hk6 HFF.out).cellOf HCELL.out.2.2.2.2 (by simp)⟩)
                    (first | (refine step_appS rfl _ _ 30 rfl 3 (.int .i64 0) 8 Try.underlying30 Try.infoInt rfl (.slice ao B.length co) (bis B) (bis (K.symP ls s)) (some ⟨br, orr, none⟩) m c' rfl rfl HONE.out HROW.out HSR.out (fun h => by cases h) L1 L2 ?_; intro a6 cap6 w6 hrow6 hk6 hg6))
                  rename_i hS
                  clear hS
                  have hk6 : Kept (foot (.slice ao B.length co)) WQ w6 := (Kept.refl _ WQ).drew.trans hk6 (fun x hx => .inl hx)
                  have hg6 : Grew WQ.heap.size (foot (.slice ao B.length co)) (foot (.slice a6 ((bis B).length + m) cap6)) := hg6
                  go_wp2_with fail
                  go_roundg (L.length - (i + 1))
                  case measure => have := Hk.out; omega
                  case rel =>
                    have e2 : (bis B).length + m = (B ++ K.symP ls s).length := by rw [bis_length, List.length_append, ← HBN.out, bis_length]
                    rw [← bis_append, e2] at hrow6
                    rw [e2] at hg6
                    rw [foot_slice] at hk6 hg6
                    rw [foot_slice] at hg6
                    refine ⟨i + 1, B ++ K.symP ls s, a6, cap6, rfl, by omega, by simp, by rw [e2], ?_, Lib.hid ?_, Lib.hid hrow6, Lib.hid (HKO2.out.new hk6 HFO.out), Lib.hid (HFO.out.grow hg6 HKO2.out.size)⟩
                    · rw [← e2, bis_length]; omega
                    · rw [List.take_add_one, HSI.out]
                      have h := K.codG_snoc T P t0.length (s : Int) ⟨by omega, by omega⟩ (L.take i) 0 B HC.out
                      rw [List.length_take, Nat.min_eq_left (by omega), Nat.zero_add, Int.toNat_natCast, HSY.out] at h
                      exact h
            · obtain rfl : i = L.length := by omega
              have hll2 : ¬ (L.length : Int) < (L.length : Int) := by omega
              have HCB := Lib.hid (show K.codG T P t0.length 0 L = some B by have := HC.out; rwa [List.take_length] at this)
              have HR := Lib.hid (show K.codR T P L = (B, 0) by
                unfold K.codR
                rw [HBB.out, decide_eq_true HGN.out, HT0.out, HCB.out]
                rfl)
              go_wp2_with fail
              go_ret2
              rw [HR.out]
              exact ⟨ao, co, rfl, HRO.out, HK3.out.trans HKX.out (by simp)⟩
end Go.Proofs.Ytdaenajhgbagdaa
