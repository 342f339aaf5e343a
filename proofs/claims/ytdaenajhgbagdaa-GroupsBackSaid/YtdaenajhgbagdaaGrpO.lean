/-
  The walks of Best, of the program and of the reference.
-/
import Derived.Test.YtdaenajhgbagdaaGrpN
namespace Go.Proofs.Ytdaenajhgbagdaa
open Go.RowKit
set_option linter.unusedVariables false
set_option linter.unusedSimpArgs false

theorem Sees.offPlan {w : World} {g m : Nat} {a : Option Addr} {xs : List Value} (hA : Arr w g 32 [.slice none 0 0, .slice none 0 0]) (hs : Sees w 1 a m xs) (hx : ∀ u ∈ xs, u ≠ .slice none 0 0) : 0 < xs.length → Apart (footA a) [g] := by
  intro h0 y hy hm
  obtain ⟨b, off, rfl, hc⟩ := hs.at h0
  have hyb : y = b := by simpa [footA] using hy
  have hyg : y = g := by simpa using hm
  subst hyb
  subst hyg
  have c0 := hc 0 xs[0] (List.getElem?_eq_getElem h0)
  have h1 : w.cell? ⟨y, off + 0, none⟩ = _ := cell_of_row w y (off + 0) _ _ _ hA
  rw [c0] at h1
  have h2 := hx _ (List.getElem_mem h0)
  rw [List.getElem?_toArray] at h1
  match off + 0, h1 with
  | 0, h1 => simp at h1; exact h2 h1
  | 1, h1 => simp at h1; exact h2 h1
  | k + 2, h1 => simp at h1
/-- A plan stays, if the cell of a plan without tables turns. -/
theorem PlanAt.keptR {w w' : World} {g : Nat} {aT aP : Option Addr} {cT cP : Nat} {T : List (List Int)} {P : List Int} (hA : Arr w g 32 [.slice none 0 0, .slice none 0 0]) (h : PlanAt w aT aP cT cP T P) (hne : ∀ t ∈ T, 0 < t.length) (hk : Kept [g] w w') : PlanAt w' aT aP cT cP T P := by
  have hint : ∀ l : List Int, ∀ u ∈ intVals l, u ≠ .slice none 0 0 := by
    intro l u hu
    obtain ⟨x, -, rfl⟩ := List.mem_map.1 hu
    intro h; cases h
  refine ⟨?_, h.picks.keptB hk (Sees.offPlan hA h.picks (hint P)), h.tl, h.pl, h.rl⟩
  obtain ⟨vs, h1, h2, h3⟩ := h.tabs
  have hvs : ∀ u ∈ vs, u ≠ .slice none 0 0 := by
    intro u hu
    obtain ⟨i, hi⟩ := List.getElem?_of_mem hu
    have hil := (List.getElem?_eq_some_iff.1 hi).1
    rw [h2, List.length_map] at hil
    obtain ⟨t, ht⟩ : ∃ t, T[i]? = some t := ⟨_, List.getElem?_eq_getElem hil⟩
    obtain ⟨b, c, rfl, -, -, -⟩ := h3 i u (intVals t) hi (by rw [List.getElem?_map, ht]; rfl)
    have := hne t (List.mem_of_getElem? ht)
    rw [intVals_length]
    intro h
    injection h with e1 e2 e3
    omega
  refine ⟨vs, h1.keptB hk (Sees.offPlan hA h1 hvs), h2, fun i u r h4 h5 => ?_⟩
  obtain ⟨b, c, rfl, h6, h7, h8⟩ := h3 i u r h4 h5
  rw [List.getElem?_map] at h5
  cases ht : T[i]? with
  | none => rw [ht] at h5; cases h5
  | some t =>
    rw [ht] at h5
    injection h5 with h5
    subst h5
    exact ⟨b, c, rfl, h6.keptB hk (Sees.offPlan hA h6 (hint t)), h7, h8⟩
theorem chooseR_ok (xs : List Int) (n : Int) (h : (chooseR xs n).2.2 = 0) : K.mayListL xs n = true ∧ (∀ t ∈ (chooseR xs n).1, (t.length : Int) = n) ∧ (chooseR xs n).1.length = (K.tablesR (xs.length : Int)).1 := by
  unfold chooseR at h ⊢
  cases hm : K.mayListL xs n with
  | false => rw [hm] at h; simp at h
  | true =>
    obtain ⟨-, h3, h258, h4, h5, hall⟩ := cnt_may hm
    have hg := K.tabsC_good (K.natsOf xs) n.toNat (K.tablesR (xs.length : Int)).1 (by omega) (by rw [K.natsOf_length]; omega) 4
    refine ⟨rfl, fun t ht => ?_, ?_⟩
    · rw [if_pos rfl] at ht
      obtain ⟨u, hu, rfl⟩ := List.mem_map.1 ht
      rw [castI_length, (hg.2 u hu).1]
      omega
    · rw [if_pos rfl, List.length_map]
      exact hg.1
theorem chooseR_er (xs : List Int) (n : Int) (h : (chooseR xs n).2.2 ≠ 0) : (chooseR xs n).2.2 = 2 ∧ K.mayListL xs n = false := by
  unfold chooseR at h ⊢
  cases hm : K.mayListL xs n with
  | false => simp
  | true => rw [hm] at h; simp at h
theorem flatGR_ok (xs : List Int) (n : Int) (h : K.mayListL xs n = true) : (flatGR xs n).2.2 = 0 ∧ ∀ t ∈ (flatGR xs n).1, (t.length : Int) = n := by
  obtain ⟨hmay, h3, h258, h4, h5, hall⟩ := cnt_may h
  unfold flatGR
  rw [h, if_pos rfl]
  refine ⟨rfl, fun t ht => ?_⟩
  have : (flatPT xs n.toNat).length = n.toNat := by unfold flatPT; rw [List.length_map, K.flatL_length, ownN_length]; simp [cntI, cntTo_len]
  simp at ht
  subst ht
  omega
set_option maxHeartbeats 2000000 in
theorem gbest_any (a : Option Addr) (c : Nat) (xs : List Int) (n : Int) (w : World) (h : Sees w 1 a xs.length (intVals xs)) (hc : xs.length ≤ c) (hcm : c ≤ maxLen) (hl : xs.length ≤ 10000) :
    Calls Try.prog 33 #[.slice a xs.length c, .int .i64 n] w (PlanPost (bestGR xs n).1 (bestGR xs n).2.1 (bestGR xs n).2.2 w) := by
  have hk : Kept [] w (w.alloc (.cells #[.slice none 0 0, .slice none 0 0] 32)) := (Kept.refl _ _).alloc _
  have hA := Arr.new w [.slice none 0 0, .slice none 0 0] 32
  have hok := chooseR_ok xs n
  have her := chooseR_er xs n
  have hfl := flatGR_ok xs n
  have HB := Lib.hid (show bestGR xs n = if (chooseR xs n).2.2 = 0 then (if (K.sizeGR (flatGR xs n).1 (flatGR xs n).2.1 xs).1 < (K.sizeGR (chooseR xs n).1 (chooseR xs n).2.1 xs).1 then ((flatGR xs n).1, (flatGR xs n).2.1, 0) else ((chooseR xs n).1, (chooseR xs n).2.1, 0)) else ([], [], (chooseR xs n).2.2) from rfl)
  have HC := Lib.hid (fun (W : World) (hW : Kept [] w W) => gchoose_any a c xs n W (h.kept0 hW) hc hcm hl)
  have HF := Lib.hid (fun (W : World) (hW : Kept [] w W) => gflat_any a c xs n W (h.kept0 hW) hl)
  obtain ⟨⟨TA, PA, ea⟩, hRA⟩ : ∃ R, chooseR xs n = R := ⟨_, rfl⟩
  obtain ⟨⟨TB, PB, eb⟩, hRB⟩ : ∃ R, flatGR xs n = R := ⟨_, rfl⟩
  rw [hRA] at hok her HB HC
  rw [hRB] at hfl HB HF
  have HOK := Lib.hid hok
  have HER := Lib.hid her
  have HFL := Lib.hid hfl
  have HS := Lib.hid h
  have HK := Lib.hid hk
  have HA := Lib.hid hA
  clear hok her hfl h hk hA hRA hRB
  go_enter Try.func33, Try.ntmps33
  go_wp2_with fail
  refine (HC.out _ HK.out).mono ?_
  rintro e w2 ⟨aT, cT, aP, cP, rfl, hpl, hk2, hlT, hlP⟩
  have HK2 := Lib.hid (HK.out.trans hk2 (by simp))
  have HA2 := Lib.hid (HA.out.kept hk2 (by simp))
  have HP2 := Lib.hid hpl
  clear hpl hk2 HC HK HA
  unfold planV
  have hkB : Kept [] w2 (w2.alloc (.cells #[.slice aT TA.length cT, .slice aP PA.length cP] 32)) := (Kept.refl _ _).alloc _
  have hB := Arr.new w2 [.slice aT TA.length cT, .slice aP PA.length cP] 32
  have HK3 := Lib.hid (HK2.out.trans hkB (by simp))
  have HA3 := Lib.hid (HA2.out.kept hkB (by simp))
  have HP3 := Lib.hid (HP2.out.kept hkB)
  have HB3 := Lib.hid hB
  obtain ⟨W3, hW3⟩ : ∃ W3, w2.alloc (.cells #[.slice aT TA.length cT, .slice aP PA.length cP] 32) = W3 := ⟨_, rfl⟩
  rw [hW3] at HK3 HA3 HP3 HB3
  have HW3 := Lib.hid hW3
  have HGA := Lib.hid (show w.heap.size < w2.heap.size from HA2.out.lt)
  obtain ⟨gA, hgA⟩ : ∃ gA, w2.heap.size = gA := ⟨_, rfl⟩
  rw [hgA] at HB3 HGA
  have HGE := Lib.hid hgA
  clear hkB hB hW3 hgA HP2
  by_cases hz : ea = 0
  · subst hz
    obtain ⟨hmay, hTA, -⟩ := HOK.out rfl
    obtain ⟨hn3, -⟩ : 3 ≤ n ∧ n ≤ 258 := by obtain ⟨-, h1, h2, -⟩ := cnt_may hmay; exact ⟨h1, h2⟩
    obtain ⟨-, hTB⟩ := HFL.out hmay
    have HTA := Lib.hid (show ∀ t ∈ TA, 0 < t.length by intro t ht; have h := hTA t ht; omega)
    have HTB := Lib.hid (show ∀ t ∈ TB, 0 < t.length by intro t ht; have h := hTB t ht; omega)
    have HB2 := Lib.hid (show bestGR xs n = (if (K.sizeGR TB PB xs).1 < (K.sizeGR TA PA xs).1 then (TB, PB, 0) else (TA, PA, 0)) by rw [HB.out, if_pos rfl])
    clear HB
    clear hmay hTA hTB HOK HFL HER
    go_wp2_with fail
    rw [HW3.out, HGE.out]
    refine (HF.out _ HK3.out).mono ?_
    rintro e w4 ⟨aU, cU, aQ, cQ, rfl, hpl, hk4, hlU, hlQ⟩
    have HK4 := Lib.hid (HK3.out.trans hk4 (by simp))
    have HA4 := Lib.hid (HA3.out.kept hk4 (by simp))
    have HP4 := Lib.hid (HP3.out.kept hk4)
    have HB4 := Lib.hid (HB3.out.kept hk4 (by simp))
    have HQ4 := Lib.hid hpl
    clear hpl hk4 HF HK3 HA3 HP3 HB3 HW3
    unfold planV
    have hkB : Kept [] w4 (w4.alloc (.cells #[.slice aU TB.length cU, .slice aQ PB.length cQ] 32)) := (Kept.refl _ _).alloc _
    have hB := Arr.new w4 [.slice aU TB.length cU, .slice aQ PB.length cQ] 32
    have HK5 := Lib.hid (HK4.out.trans hkB (by simp))
    have HA5 := Lib.hid (HA4.out.kept hkB (by simp))
    have HP5 := Lib.hid (HP4.out.kept hkB)
    have HQ5 := Lib.hid (HQ4.out.kept hkB)
    have HB5 := Lib.hid (HB4.out.kept hkB (by simp))
    have HD5 := Lib.hid hB
    have hltA := HB4.out.lt
    obtain ⟨W5, hW5⟩ : ∃ W5, w4.alloc (.cells #[.slice aU TB.length cU, .slice aQ PB.length cQ] 32) = W5 := ⟨_, rfl⟩
    rw [hW5] at HK5 HA5 HP5 HQ5 HB5 HD5
    have HW5 := Lib.hid hW5
    have HGB := Lib.hid (show gA < w4.heap.size ∧ w.heap.size < w4.heap.size from ⟨HB4.out.lt, HA4.out.lt⟩)
    obtain ⟨gB, hgB⟩ : ∃ gB, w4.heap.size = gB := ⟨_, rfl⟩
    rw [hgB] at HD5 HGB
    have HGF := Lib.hid hgB
    clear hkB hB hgB HQ4 HP4 hW5
    have HX := Lib.hid (fun (W : World) (hW : Kept [] W5 W) => gsize_any aT aP a cT cP c TA PA xs W (HP5.out.kept hW) (HS.out.kept0 (HK5.out.trans hW (by simp))) (by omega))
    have HY := Lib.hid (fun (W : World) (hW : Kept [] W5 W) => gsize_any aU aQ a cU cQ c TB PB xs W (HQ5.out.kept hW) (HS.out.kept0 (HK5.out.trans hW (by simp))) (by omega))
    obtain ⟨⟨x, ex⟩, hx⟩ : ∃ X, K.sizeGR TA PA xs = X := ⟨_, rfl⟩
    obtain ⟨⟨y, ey⟩, hy⟩ : ∃ Y, K.sizeGR TB PB xs = Y := ⟨_, rfl⟩
    simp only [hx] at HX HB2
    simp only [hy] at HY HB2
    have b0 := HB5.out.cell (i := 0) (u := .slice aT TA.length cT) rfl
    have b1 := HB5.out.cell (i := 1) (u := .slice aP PA.length cP) rfl
    rw [← HW5.out] at b0 b1
    have M := HX.out W5 (Kept.refl _ _)
    unfold planV at M
    clear hx hy
    go_wp2_with fail
    rw [HW5.out]
    refine M.mono ?_
    rintro e w6 ⟨rfl, hk6⟩
    have HK6 := Lib.hid hk6
    have c0 := (HD5.out.kept hk6 (by simp)).cell (i := 0) (u := .slice aU TB.length cU) rfl
    have c1 := (HD5.out.kept hk6 (by simp)).cell (i := 1) (u := .slice aQ PB.length cQ) rfl
    have M := HY.out w6 hk6
    unfold planV at M
    rw [HGF.out]
    clear hk6 HX HW5 b0 b1
    go_wp2_with fail
    refine M.mono ?_
    rintro e w7 ⟨rfl, hk7⟩
    have HK57 := Lib.hid (show Kept [] W5 w7 from HK6.out.trans hk7 (by simp))
    have HK7 := Lib.hid (HK5.out.trans HK57.out (by simp))
    have hA7 := HA5.out.kept HK57.out (by simp)
    have r0 := hA7.cell (i := 0) (u := .slice none 0 0) rfl
    have r1 := hA7.cell (i := 1) (u := .slice none 0 0) rfl
    have f0 := hA7.free 0
    have f1 := hA7.free 1
    have HA7 := Lib.hid hA7
    clear hk7 M HY c0 c1 hA7
    by_cases hlt : y < x
    · have q1 : (y : Int) < (x : Int) := by omega
      have HR := Lib.hid (show bestGR xs n = (TB, PB, 0) by rw [HB2.out, if_pos hlt])
      have d0 := (HD5.out.kept HK57.out (by simp)).cell (i := 0) (u := .slice aU TB.length cU) rfl
      have d1 := (HD5.out.kept HK57.out (by simp)).cell (i := 1) (u := .slice aQ PB.length cQ) rfl
      have s0 := ((HA7.out.set 0 (.slice aU TB.length cU)).set 1 (.slice aQ PB.length cQ)).cell (i := 0) (u := .slice aU TB.length cU) rfl
      have s1 := ((HA7.out.set 0 (.slice aU TB.length cU)).set 1 (.slice aQ PB.length cQ)).cell (i := 1) (u := .slice aQ PB.length cQ) rfl
      clear hlt
      go_wp2_with fail
      refine bodyPost_ret (v := .tuple #[planV aU TB.length cU aQ PB.length cQ, .int .i64 0]) (by simp [results, Try.results33, go_sem, planV, s0, s1]) rfl ?_
      rw [HR.out]
      have hst : Kept [w.heap.size] w7 ((w7.setCell ⟨w.heap.size, 0, none⟩ (.slice aU TB.length cU)).setCell ⟨w.heap.size, 1, none⟩ (.slice aQ PB.length cQ)) := ((Kept.refl [w.heap.size] w7).setCell (p := ⟨w.heap.size, 0, none⟩) (by simp) _).setCell (p := ⟨w.heap.size, 1, none⟩) (by simp) _
      exact ⟨aU, cU, aQ, cQ, rfl, (HQ5.out.kept HK57.out).keptR HA7.out HTB.out hst, HK7.out.trans hst (by intro x hx; simp at hx; subst hx; exact .inr (Nat.le_refl _)), hlU, hlQ⟩
    · have q1 : ¬ (y : Int) < (x : Int) := by omega
      have HR := Lib.hid (show bestGR xs n = (TA, PA, 0) by rw [HB2.out, if_neg hlt])
      have d0 := (HB5.out.kept HK57.out (by simp)).cell (i := 0) (u := .slice aT TA.length cT) rfl
      have d1 := (HB5.out.kept HK57.out (by simp)).cell (i := 1) (u := .slice aP PA.length cP) rfl
      have s0 := ((HA7.out.set 0 (.slice aT TA.length cT)).set 1 (.slice aP PA.length cP)).cell (i := 0) (u := .slice aT TA.length cT) rfl
      have s1 := ((HA7.out.set 0 (.slice aT TA.length cT)).set 1 (.slice aP PA.length cP)).cell (i := 1) (u := .slice aP PA.length cP) rfl
      clear hlt
      go_wp2_with fail
      refine bodyPost_ret (v := .tuple #[planV aT TA.length cT aP PA.length cP, .int .i64 0]) (by simp [results, Try.results33, go_sem, planV, s0, s1]) rfl ?_
      rw [HR.out]
      have hst : Kept [w.heap.size] w7 ((w7.setCell ⟨w.heap.size, 0, none⟩ (.slice aT TA.length cT)).setCell ⟨w.heap.size, 1, none⟩ (.slice aP PA.length cP)) := ((Kept.refl [w.heap.size] w7).setCell (p := ⟨w.heap.size, 0, none⟩) (by simp) _).setCell (p := ⟨w.heap.size, 1, none⟩) (by simp) _
      exact ⟨aT, cT, aP, cP, rfl, (HP5.out.kept HK57.out).keptR HA7.out HTA.out hst, HK7.out.trans hst (by intro x hx; simp at hx; subst hx; exact .inr (Nat.le_refl _)), hlT, hlP⟩
  · have hea : ea = 2 := (HER.out hz).1
    subst hea
    rw [← HGE.out] at HB3
    have HBE := Lib.hid (show bestGR xs n = ([], [], 2) by rw [HB.out, if_neg (by decide)])
    have hlt := HA2.out.lt
    have t0 := HA2.out.cell (i := 0) (u := .slice none 0 0) rfl
    have t1 := HA2.out.cell (i := 1) (u := .slice none 0 0) rfl
    have t2 := HA2.out.free 0
    have t3 := HA2.out.free 1
    have u0 := ((Kept.refl [] _).alloc (.cells #[.slice aT TA.length cT, .slice aP PA.length cP] 32)).cellOf (((HA2.out.set 0 (.slice none 0 0)).set 1 (.slice none 0 0)).cell (i := 0) (u := .slice none 0 0) rfl) (by simp)
    have u1 := ((Kept.refl [] _).alloc (.cells #[.slice aT TA.length cT, .slice aP PA.length cP] 32)).cellOf (((HA2.out.set 0 (.slice none 0 0)).set 1 (.slice none 0 0)).cell (i := 1) (u := .slice none 0 0) rfl) (by simp)
    have U0 := Lib.hid u0
    have U1 := Lib.hid u1
    clear u0 u1 HB
    go_wp2_with fail
    have u0 := U0.out
    have u1 := U1.out
    have hkE := ((HK2.out.setCell (p := ⟨w.heap.size, 0, none⟩) (.inr (by simp)) (.slice none 0 0)).setCell (p := ⟨w.heap.size, 1, none⟩) (.inr (by simp)) (.slice none 0 0)).alloc (.cells #[.slice aT TA.length cT, .slice aP PA.length cP] 32)
    obtain ⟨WF, hWF⟩ : ∃ WF, ((w2.setCell ⟨w.heap.size, 0, none⟩ (.slice none 0 0)).setCell ⟨w.heap.size, 1, none⟩ (.slice none 0 0)).alloc (.cells #[.slice aT TA.length cT, .slice aP PA.length cP] 32) = WF := ⟨_, rfl⟩
    rw [hWF] at u0 u1 hkE ⊢
    refine bodyPost_ret (v := .tuple #[planV none 0 0 none 0 0, .int .i64 2]) (by simp [results, Try.results33, go_sem, planV, u0, u1]) rfl ?_
    rw [HBE.out]
    exact ⟨none, 0, none, 0, rfl, PlanAt.nil _, hkE, by simp, by simp⟩
set_option maxHeartbeats 2000000 in
theorem rbestG_any (a : Option Addr) (c : Nat) (xs : List Int) (n : Int) (w : World) (h : Sees w 1 a xs.length (intVals xs)) (hc : xs.length ≤ c) (hcm : c ≤ maxLen) (hl : xs.length ≤ 10000) :
    Calls Try.prog 34 #[.slice a xs.length c, .int .i64 n] w (PlanPost (bestGR xs n).1 (bestGR xs n).2.1 (bestGR xs n).2.2 w) := by
  have hk : Kept [] w (w.alloc (.cells #[.slice none 0 0, .slice none 0 0] 32)) := (Kept.refl _ _).alloc _
  have hA := Arr.new w [.slice none 0 0, .slice none 0 0] 32
  have hok := chooseR_ok xs n
  have her := chooseR_er xs n
  have hfl := flatGR_ok xs n
  have HB := Lib.hid (show bestGR xs n = if (chooseR xs n).2.2 = 0 then (if (K.sizeGR (flatGR xs n).1 (flatGR xs n).2.1 xs).1 < (K.sizeGR (chooseR xs n).1 (chooseR xs n).2.1 xs).1 then ((flatGR xs n).1, (flatGR xs n).2.1, 0) else ((chooseR xs n).1, (chooseR xs n).2.1, 0)) else ([], [], (chooseR xs n).2.2) from rfl)
  have HC := Lib.hid (fun (W : World) (hW : Kept [] w W) => rchooseG_any a c xs n W (h.kept0 hW) hc hcm hl)
  have HF := Lib.hid (fun (W : World) (hW : Kept [] w W) => rflatG_any a c xs n W (h.kept0 hW) hl)
  obtain ⟨⟨TA, PA, ea⟩, hRA⟩ : ∃ R, chooseR xs n = R := ⟨_, rfl⟩
  obtain ⟨⟨TB, PB, eb⟩, hRB⟩ : ∃ R, flatGR xs n = R := ⟨_, rfl⟩
  rw [hRA] at hok her HB HC
  rw [hRB] at hfl HB HF
  have HOK := Lib.hid hok
  have HER := Lib.hid her
  have HFL := Lib.hid hfl
  have HS := Lib.hid h
  have HK := Lib.hid hk
  have HA := Lib.hid hA
  clear hok her hfl h hk hA hRA hRB
  go_enter Try.func34, Try.ntmps34
  go_wp2_with fail
  refine (HC.out _ HK.out).mono ?_
  rintro e w2 ⟨aT, cT, aP, cP, rfl, hpl, hk2, hlT, hlP⟩
  have HK2 := Lib.hid (HK.out.trans hk2 (by simp))
  have HA2 := Lib.hid (HA.out.kept hk2 (by simp))
  have HP2 := Lib.hid hpl
  clear hpl hk2 HC HK HA
  unfold planV
  have hkB : Kept [] w2 (w2.alloc (.cells #[.slice aT TA.length cT, .slice aP PA.length cP] 32)) := (Kept.refl _ _).alloc _
  have hB := Arr.new w2 [.slice aT TA.length cT, .slice aP PA.length cP] 32
  have HK3 := Lib.hid (HK2.out.trans hkB (by simp))
  have HA3 := Lib.hid (HA2.out.kept hkB (by simp))
  have HP3 := Lib.hid (HP2.out.kept hkB)
  have HB3 := Lib.hid hB
  obtain ⟨W3, hW3⟩ : ∃ W3, w2.alloc (.cells #[.slice aT TA.length cT, .slice aP PA.length cP] 32) = W3 := ⟨_, rfl⟩
  rw [hW3] at HK3 HA3 HP3 HB3
  have HW3 := Lib.hid hW3
  have HGA := Lib.hid (show w.heap.size < w2.heap.size from HA2.out.lt)
  obtain ⟨gA, hgA⟩ : ∃ gA, w2.heap.size = gA := ⟨_, rfl⟩
  rw [hgA] at HB3 HGA
  have HGE := Lib.hid hgA
  clear hkB hB hW3 hgA HP2
  go_wp2_with fail
  rw [HW3.out, HGE.out]
  refine (HF.out _ HK3.out).mono ?_
  rintro e w4 ⟨aU, cU, aQ, cQ, rfl, hpl, hk4, hlU, hlQ⟩
  have HK4 := Lib.hid (HK3.out.trans hk4 (by simp))
  have HA4 := Lib.hid (HA3.out.kept hk4 (by simp))
  have HP4 := Lib.hid (HP3.out.kept hk4)
  have HB4 := Lib.hid (HB3.out.kept hk4 (by simp))
  have HQ4 := Lib.hid hpl
  clear hpl hk4 HF HK3 HA3 HP3 HB3 HW3
  unfold planV
  have hkB : Kept [] w4 (w4.alloc (.cells #[.slice aU TB.length cU, .slice aQ PB.length cQ] 32)) := (Kept.refl _ _).alloc _
  have hB := Arr.new w4 [.slice aU TB.length cU, .slice aQ PB.length cQ] 32
  have HK5 := Lib.hid (HK4.out.trans hkB (by simp))
  have HA5 := Lib.hid (HA4.out.kept hkB (by simp))
  have HP5 := Lib.hid (HP4.out.kept hkB)
  have HQ5 := Lib.hid (HQ4.out.kept hkB)
  have HB5 := Lib.hid (HB4.out.kept hkB (by simp))
  have HD5 := Lib.hid hB
  have hltA := HB4.out.lt
  obtain ⟨W5, hW5⟩ : ∃ W5, w4.alloc (.cells #[.slice aU TB.length cU, .slice aQ PB.length cQ] 32) = W5 := ⟨_, rfl⟩
  rw [hW5] at HK5 HA5 HP5 HQ5 HB5 HD5
  have HW5 := Lib.hid hW5
  have HGB := Lib.hid (show gA < w4.heap.size ∧ w.heap.size < w4.heap.size from ⟨HB4.out.lt, HA4.out.lt⟩)
  obtain ⟨gB, hgB⟩ : ∃ gB, w4.heap.size = gB := ⟨_, rfl⟩
  rw [hgB] at HD5 HGB
  have HGF := Lib.hid hgB
  clear hkB hB hgB HQ4 HP4 hW5
  by_cases hz : ea = 0
  · subst hz
    obtain ⟨hmay, hTA, -⟩ := HOK.out rfl
    obtain ⟨hn3, -⟩ : 3 ≤ n ∧ n ≤ 258 := by obtain ⟨-, h1, h2, -⟩ := cnt_may hmay; exact ⟨h1, h2⟩
    obtain ⟨-, hTB⟩ := HFL.out hmay
    have HTA := Lib.hid (show ∀ t ∈ TA, 0 < t.length by intro t ht; have h := hTA t ht; omega)
    have HTB := Lib.hid (show ∀ t ∈ TB, 0 < t.length by intro t ht; have h := hTB t ht; omega)
    have HB2 := Lib.hid (show bestGR xs n = (if (K.sizeGR TB PB xs).1 < (K.sizeGR TA PA xs).1 then (TB, PB, 0) else (TA, PA, 0)) by rw [HB.out, if_pos rfl])
    clear HB
    have HX := Lib.hid (fun (W : World) (hW : Kept [] W5 W) => rsizeG_any aT aP a cT cP c TA PA xs W (HP5.out.kept hW) (HS.out.kept0 (HK5.out.trans hW (by simp))) (by omega))
    have HY := Lib.hid (fun (W : World) (hW : Kept [] W5 W) => rsizeG_any aU aQ a cU cQ c TB PB xs W (HQ5.out.kept hW) (HS.out.kept0 (HK5.out.trans hW (by simp))) (by omega))
    obtain ⟨⟨x, ex⟩, hx⟩ : ∃ X, K.sizeGR TA PA xs = X := ⟨_, rfl⟩
    obtain ⟨⟨y, ey⟩, hy⟩ : ∃ Y, K.sizeGR TB PB xs = Y := ⟨_, rfl⟩
    simp only [hx] at HX HB2
    simp only [hy] at HY HB2
    have b0 := HB5.out.cell (i := 0) (u := .slice aT TA.length cT) rfl
    have b1 := HB5.out.cell (i := 1) (u := .slice aP PA.length cP) rfl
    rw [← HW5.out] at b0 b1
    have M := HX.out W5 (Kept.refl _ _)
    unfold planV at M
    clear hmay hTA hTB hx hy
    go_wp2_with fail
    rw [HW5.out]
    refine M.mono ?_
    rintro e w6 ⟨rfl, hk6⟩
    have HK6 := Lib.hid hk6
    have c0 := (HD5.out.kept hk6 (by simp)).cell (i := 0) (u := .slice aU TB.length cU) rfl
    have c1 := (HD5.out.kept hk6 (by simp)).cell (i := 1) (u := .slice aQ PB.length cQ) rfl
    have M := HY.out w6 hk6
    unfold planV at M
    rw [HGF.out]
    clear hk6 HX HW5 b0 b1
    go_wp2_with fail
    refine M.mono ?_
    rintro e w7 ⟨rfl, hk7⟩
    have HK57 := Lib.hid (show Kept [] W5 w7 from HK6.out.trans hk7 (by simp))
    have HK7 := Lib.hid (HK5.out.trans HK57.out (by simp))
    have hA7 := HA5.out.kept HK57.out (by simp)
    have r0 := hA7.cell (i := 0) (u := .slice none 0 0) rfl
    have r1 := hA7.cell (i := 1) (u := .slice none 0 0) rfl
    have f0 := hA7.free 0
    have f1 := hA7.free 1
    have HA7 := Lib.hid hA7
    clear hk7 M HY c0 c1 hA7
    by_cases hlt : y < x
    · have q1 : (y : Int) < (x : Int) := by omega
      have HR := Lib.hid (show bestGR xs n = (TB, PB, 0) by rw [HB2.out, if_pos hlt])
      have d0 := (HD5.out.kept HK57.out (by simp)).cell (i := 0) (u := .slice aU TB.length cU) rfl
      have d1 := (HD5.out.kept HK57.out (by simp)).cell (i := 1) (u := .slice aQ PB.length cQ) rfl
      have s0 := ((HA7.out.set 0 (.slice aU TB.length cU)).set 1 (.slice aQ PB.length cQ)).cell (i := 0) (u := .slice aU TB.length cU) rfl
      have s1 := ((HA7.out.set 0 (.slice aU TB.length cU)).set 1 (.slice aQ PB.length cQ)).cell (i := 1) (u := .slice aQ PB.length cQ) rfl
      clear hlt
      go_wp2_with fail
      refine bodyPost_ret (v := .tuple #[planV aU TB.length cU aQ PB.length cQ, .int .i64 0]) (by simp [results, Try.results34, go_sem, planV, s0, s1]) rfl ?_
      rw [HR.out]
      have hst : Kept [w.heap.size] w7 ((w7.setCell ⟨w.heap.size, 0, none⟩ (.slice aU TB.length cU)).setCell ⟨w.heap.size, 1, none⟩ (.slice aQ PB.length cQ)) := ((Kept.refl [w.heap.size] w7).setCell (p := ⟨w.heap.size, 0, none⟩) (by simp) _).setCell (p := ⟨w.heap.size, 1, none⟩) (by simp) _
      exact ⟨aU, cU, aQ, cQ, rfl, (HQ5.out.kept HK57.out).keptR HA7.out HTB.out hst, HK7.out.trans hst (by intro x hx; simp at hx; subst hx; exact .inr (Nat.le_refl _)), hlU, hlQ⟩
    · have q1 : ¬ (y : Int) < (x : Int) := by omega
      have HR := Lib.hid (show bestGR xs n = (TA, PA, 0) by rw [HB2.out, if_neg hlt])
      have d0 := (HB5.out.kept HK57.out (by simp)).cell (i := 0) (u := .slice aT TA.length cT) rfl
      have d1 := (HB5.out.kept HK57.out (by simp)).cell (i := 1) (u := .slice aP PA.length cP) rfl
      have s0 := ((HA7.out.set 0 (.slice aT TA.length cT)).set 1 (.slice aP PA.length cP)).cell (i := 0) (u := .slice aT TA.length cT) rfl
      have s1 := ((HA7.out.set 0 (.slice aT TA.length cT)).set 1 (.slice aP PA.length cP)).cell (i := 1) (u := .slice aP PA.length cP) rfl
      clear hlt
      go_wp2_with fail
      refine bodyPost_ret (v := .tuple #[planV aT TA.length cT aP PA.length cP, .int .i64 0]) (by simp [results, Try.results34, go_sem, planV, s0, s1]) rfl ?_
      rw [HR.out]
      have hst : Kept [w.heap.size] w7 ((w7.setCell ⟨w.heap.size, 0, none⟩ (.slice aT TA.length cT)).setCell ⟨w.heap.size, 1, none⟩ (.slice aP PA.length cP)) := ((Kept.refl [w.heap.size] w7).setCell (p := ⟨w.heap.size, 0, none⟩) (by simp) _).setCell (p := ⟨w.heap.size, 1, none⟩) (by simp) _
      exact ⟨aT, cT, aP, cP, rfl, (HP5.out.kept HK57.out).keptR HA7.out HTA.out hst, HK7.out.trans hst (by intro x hx; simp at hx; subst hx; exact .inr (Nat.le_refl _)), hlT, hlP⟩
  · have hea : ea = 2 := (HER.out hz).1
    subst hea
    have HBE := Lib.hid (show bestGR xs n = ([], [], 2) by rw [HB.out, if_neg (by decide)])
    have hlt := HA4.out.lt
    have t0 := HA4.out.cell (i := 0) (u := .slice none 0 0) rfl
    have t1 := HA4.out.cell (i := 1) (u := .slice none 0 0) rfl
    have t2 := HA4.out.free 0
    have t3 := HA4.out.free 1
    have u0 := ((Kept.refl [] _).alloc (.cells #[.slice aU TB.length cU, .slice aQ PB.length cQ] 32)).cellOf (((HA4.out.set 0 (.slice none 0 0)).set 1 (.slice none 0 0)).cell (i := 0) (u := .slice none 0 0) rfl) (by simp)
    have u1 := ((Kept.refl [] _).alloc (.cells #[.slice aU TB.length cU, .slice aQ PB.length cQ] 32)).cellOf (((HA4.out.set 0 (.slice none 0 0)).set 1 (.slice none 0 0)).cell (i := 1) (u := .slice none 0 0) rfl) (by simp)
    have U0 := Lib.hid u0
    have U1 := Lib.hid u1
    clear u0 u1 HB
    go_wp2_with fail
    have u0 := U0.out
    have u1 := U1.out
    have hkE := ((HK4.out.setCell (p := ⟨w.heap.size, 0, none⟩) (.inr (by simp)) (.slice none 0 0)).setCell (p := ⟨w.heap.size, 1, none⟩) (.inr (by simp)) (.slice none 0 0)).alloc (.cells #[.slice aU TB.length cU, .slice aQ PB.length cQ] 32)
    obtain ⟨WF, hWF⟩ : ∃ WF, ((w4.setCell ⟨w.heap.size, 0, none⟩ (.slice none 0 0)).setCell ⟨w.heap.size, 1, none⟩ (.slice none 0 0)).alloc (.cells #[.slice aU TB.length cU, .slice aQ PB.length cQ] 32) = WF := ⟨_, rfl⟩
    rw [hWF] at u0 u1 hkE ⊢
    refine bodyPost_ret (v := .tuple #[planV none 0 0 none 0 0, .int .i64 2]) (by simp [results, Try.results34, go_sem, planV, u0, u1]) rfl ?_
    rw [HBE.out]
    exact ⟨none, 0, none, 0, rfl, PlanAt.nil _, hkE, by simp, by simp⟩
end Go.Proofs.Ytdaenajhgbagdaa
