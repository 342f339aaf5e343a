/-
  The walks of layer 11's reference Flat, and of Best, of the program and of the reference.
-/
import Derived.Test.YtdaenajhgbagdaaGrpM
import Derived.Test.YtdaenajhgbagdaaRefG6
namespace Go.Proofs.Ytdaenajhgbagdaa
open Go.RowKit
set_option linter.unusedVariables false
set_option linter.unusedSimpArgs false

theorem getD_zeros (G i : Nat) : (List.replicate G 0).getD i 0 = 0 := by
  rw [List.getD, List.getElem?_replicate]
  split <;> rfl
theorem cntAt_flat (L : List Nat) (G n i : Nat) (hi : i ≤ L.length) : K.cntAt L (List.replicate G 0) 0 n i = cntTo (castI L) n i := by
  unfold K.cntAt cntTo
  apply List.map_congr_left
  intro s _
  induction i with
  | zero => simp
  | succ i ih =>
    obtain ⟨x, hx⟩ : ∃ x, L[i]? = some x := ⟨_, List.getElem?_eq_getElem (by omega)⟩
    rw [List.range_succ, List.countP_append, List.countP_singleton, ih (by omega), getD_zeros, List.take_add_one, List.count_append]
    have h1 : L.getD i 0 = x := by rw [List.getD, hx]; rfl
    have h2 : (castI L)[i]? = some (x : Int) := by simp [castI, hx]
    rw [h1, h2]
    simp only [beq_self_eq_true, Bool.true_and, Option.toList]
    by_cases h : x = s
    · subst h; simp
    · have h3 : ¬ ((x : Int) = (s : Int)) := by omega
      simp [h, h3]
/-- What Flat answers. -/
def flatGR (xs : List Int) (n : Int) : List (List Int) × List Int × Nat := if K.mayListL xs n then ([flatPT xs n.toNat, flatPT xs n.toNat], flatPP xs, 0) else ([], [], 2)
theorem gflat_any (a : Option Addr) (c : Nat) (xs : List Int) (n : Int) (w : World) (h : Sees w 1 a xs.length (intVals xs)) (hl : xs.length ≤ 10000) :
    Calls Try.prog 31 #[.slice a xs.length c, .int .i64 n] w (PlanPost (flatGR xs n).1 (flatGR xs n).2.1 (flatGR xs n).2.2 w) := by
  unfold flatGR
  cases hm : K.mayListL xs n with
  | false => exact gflat_bad a c xs n w h (by omega) hm
  | true =>
    obtain ⟨-, h3, h258, -, -, hall⟩ := cnt_may hm
    obtain ⟨n, rfl⟩ := Int.eq_ofNat_of_zero_le (show 0 ≤ n by omega)
    rw [Int.toNat_natCast]
    exact gflat_good a c xs n w h hm
theorem rflatG_bad (a : Option Addr) (c : Nat) (xs : List Int) (n : Int) (w : World) (h : Sees w 1 a xs.length (intVals xs)) (hl : xs.length ≤ 17592186043904) (hno : K.mayListL xs n = false) :
    Calls Try.prog 32 #[.slice a xs.length c, .int .i64 n] w (PlanPost [] [] 2 w) := by
  have hk : Kept [] w (w.alloc (.cells #[.slice none 0 0, .slice none 0 0] 32)) := (Kept.refl _ _).alloc _
  have hA := Arr.new w [.slice none 0 0, .slice none 0 0] 32
  have M := rmayList_any a c xs n _ (h.kept0 hk) hl
  rw [hno] at M
  have s0 : (w.alloc (.cells #[.slice none 0 0, .slice none 0 0] 32)).cell? ⟨w.heap.size, 0, none⟩ = some (.slice none 0 0) := hA.cell (i := 0) rfl
  have s1 : (w.alloc (.cells #[.slice none 0 0, .slice none 0 0] 32)).cell? ⟨w.heap.size, 1, none⟩ = some (.slice none 0 0) := hA.cell (i := 1) rfl
  have HK := Lib.hid hk
  clear h hno hk hA
  go_enter Try.func32, Try.ntmps32
  go_wp2_with fail
  refine M.mono ?_
  rintro e w' ⟨rfl, rfl⟩
  go_wp2_with fail
  refine bodyPost_ret (v := .tuple #[planV none 0 0 none 0 0, .int .i64 2]) (by simp [results, Try.results32, go_sem, planV, s0, s1]) rfl ?_
  exact ⟨none, 0, none, 0, rfl, PlanAt.nil _, HK.out, by simp, by simp⟩
set_option maxHeartbeats 1000000 in
theorem rflatG_good (a : Option Addr) (c : Nat) (L : List Nat) (n : Nat) (w : World) (h : Sees w 1 a L.length (natVals L)) (hm : K.mayListL (castI L) (n : Int) = true) (hl : L.length ≤ 10000) :
    Calls Try.prog 32 #[.slice a L.length c, .int .i64 (n : Int)] w (PlanPost [flatPT (castI L) n, flatPT (castI L) n] (flatPP (castI L)) 0 w) := by
  obtain ⟨hmay, hn3, hn258, hx1, hx2, hall⟩ := cnt_may hm
  rw [Int.toNat_natCast] at hmay
  rw [castI_length] at hx1 hx2
  have hn3 : 3 ≤ n := by omega
  have hn258 : n ≤ 258 := by omega
  have hLs : ∀ s ∈ L, s < n := by
    intro s hs
    have := hall (s : Int) (List.mem_map.2 ⟨s, hs, rfl⟩)
    omega
  have hk : Kept [] w (w.alloc (.cells #[.slice none 0 0, .slice none 0 0] 32)) := (Kept.refl _ _).alloc _
  have hA := Arr.new w [.slice none 0 0, .slice none 0 0] 32
  have M := rmayList_any a c (castI L) (n : Int) _ (by rw [castI_length, castI_vals]; exact h.kept0 hk) (by rw [castI_length]; omega)
  rw [hm, castI_length] at M
  have hgn : K.groupsN L.length ≤ 1000 := by unfold K.groupsN; omega
  have HGN1 := Lib.hid (show L.length ≤ 50 * K.groupsN L.length by unfold K.groupsN; omega)
  obtain ⟨G, hG⟩ : ∃ G, K.groupsN L.length = G := ⟨_, rfl⟩
  have HGG := Lib.hid hG
  have HGC := Lib.hid (fun W => show Calls Try.prog 71 #[.int .i64 L.length] W (fun e w' => e = .returned (.int .i64 (G : Nat)) ∧ W = w') by rw [← hG]; exact rgroups_any L.length W (by omega))
  rw [hG] at hgn
  have hws : K.cntAt L (List.replicate G 0) 0 n L.length = cntTo (castI L) n (castI L).length := by rw [cntAt_flat L G n L.length (Nat.le_refl _), castI_length]
  have hcI : castI (K.cntAt L (List.replicate G 0) 0 n L.length) = cntI (castI L) n := by rw [hws]; rfl
  have HWS := Lib.hid hcI
  have HMAY := Lib.hid hmay
  have HS := Lib.hid (h.kept0 hk)
  have HK := Lib.hid hk
  have HA := Lib.hid hA
  have HLS := Lib.hid hLs
  clear h hk hA hall hmay hm hLs hG hws hcI
  go_enter Try.func32, Try.ntmps32
  go_wp2_with fail
  refine M.mono ?_
  rintro e w1 ⟨rfl, rfl⟩
  clear M
  obtain ⟨W, hW⟩ : ∃ W, w.alloc (.cells #[.slice none 0 0, .slice none 0 0] 32) = W := ⟨_, rfl⟩
  rw [hW] at HK HA HS ⊢
  clear hW
  go_wp2_with fail
  refine (HGC.out W).mono ?_
  rintro e w2 ⟨rfl, rfl⟩
  clear HGC
  go_wp2_with ((at_make; refine wp_make1 rfl _ _ 30 rfl 3 (.int .i64 0) 8 Try.underlying30 Try.infoInt rfl .i64 .i64 _ _ G G rfl rfl rfl rfl (Nat.le_refl _) (by omega) (by simp only [maxLen]; omega) ?_; intro w2 hrow2 hk2))
  obtain ⟨gK, hgK⟩ : ∃ gK, W.heap.size = gK := ⟨_, rfl⟩
  rw [hgK] at hrow2 ⊢
  have HRK := Lib.hid (show Row w2 3 (.slice (some ⟨gK, 0, none⟩) G G) (natVals (List.replicate G 0)) by rw [show natVals (List.replicate G 0) = List.replicate G (.int .i64 0) by simp [natVals]]; exact hrow2)
  have HA2 := Lib.hid (HA.out.kept hk2 (by simp))
  have HK2 := Lib.hid (HK.out.trans hk2 (by simp))
  have HS2 := Lib.hid (HS.out.kept0 hk2)
  have HGK := Lib.hid (show w.heap.size < gK by rw [← hgK]; exact HA.out.lt)
  clear hrow2 hk2 hgK HA HK HS
  have hcl := K.cntAt_length L (List.replicate G 0) 0 n L.length
  have HC1 := Lib.hid (rcounts_any a (some ⟨gK, 0, none⟩) c G 0 n L (List.replicate G 0) w2 HS2.out (by rw [List.length_replicate]; exact HRK.out.seeA) (by omega) (by rw [List.length_replicate, ← HGG.out]; exact HGN1.out) HLS.out (by omega) hn258 (by omega))
  unfold CntPost at HC1
  rw [List.length_replicate] at HC1
  obtain ⟨ws, hws⟩ : ∃ ws, K.cntAt L (List.replicate G 0) 0 n L.length = ws := ⟨_, rfl⟩
  rw [hws] at hcl HC1 HWS
  rw [hcl] at HC1
  have HCL := Lib.hid hcl
  clear hws hcl
  go_wp2_with fail
  refine HC1.out.mono ?_
  rintro e w3 ⟨g3, rfl, hrow3, hk3, hg3⟩
  have HA3 := Lib.hid (HA2.out.kept hk3 (by simp))
  have HK3 := Lib.hid (HK2.out.trans hk3 (by simp))
  have HRK3 := Lib.hid (HRK.out.kept hk3 (by simp))
  have hsw : Sees w3 1 (some ⟨g3, 0, none⟩) (castI ws).length (intVals (castI ws)) := by rw [castI_length, castI_vals, HCL.out]; exact hrow3.seeA
  have HMK := Lib.hid (rflat_any (some ⟨g3, 0, none⟩) n (castI ws) w3 hsw (by rw [castI_length, HCL.out]; omega))
  unfold flatR at HMK
  rw [castI_length, HCL.out, HWS.out, HMAY.out, if_pos rfl] at HMK
  have HFL := Lib.hid (show (K.flatL (ownN (cntI (castI L) n))).length = n by rw [K.flatL_length, ownN_length, ← HWS.out, castI_length, HCL.out])
  obtain ⟨fl, hfl⟩ : ∃ fl, K.flatL (ownN (cntI (castI L) n)) = fl := ⟨_, rfl⟩
  have HFP := Lib.hid (show flatPT (castI L) n = castI fl by unfold flatPT; rw [hfl]; rfl)
  rw [hfl] at HMK HFL
  clear hrow3 hk3 hg3 HC1 hsw hfl
  go_wp2_with fail
  refine HMK.out.mono ?_
  rintro e w4 ⟨a4, c4, rfl, hrow4, hk4, hf4⟩
  simp only at hrow4
  have HR4 := Lib.hid hrow4
  have HA4 := Lib.hid (HA3.out.kept hk4 (by simp))
  have HK4 := Lib.hid (HK3.out.trans hk4 (by simp))
  have HRK4 := Lib.hid (HRK3.out.kept hk4 (by simp))
  have HF4 := Lib.hid (show Apart (footA a4) [w.heap.size] by
    intro y hy hm'
    simp at hm'
    have h1 := hf4 y hy
    have h2 := HA3.out.lt
    omega)
  clear hrow4 hk4 hf4 HMK
  rw [HFL.out] at HR4 ⊢
  have hone : ∀ u ∈ natVals fl, u.oneCell' = true := natVals_oneC fl
  have HONE := Lib.hid hone
  have L1 : ([] : List Value).length + n ≤ maxLen := by simp only [maxLen, List.length_nil]; omega
  have L2 : (([] : List Value).length + n) * 8 ≤ 140737488355328 := by simp only [List.length_nil]; omega
  obtain ⟨ad, hao⟩ : ∃ ad, a4 = some ad := by
    obtain ⟨b, off, h, -⟩ := HR4.out.seeA.at (by rw [natVals_length, HFL.out]; omega)
    exact ⟨_, h⟩
  subst hao
  clear hone
  have hE := Row.empty w4 3
  have hSE := HR4.out.seeA.kept0 ((Kept.refl [] w4).alloc (.cells #[] 3))
  have HSE := Lib.hid hSE
  clear hSE
  go_wp2_with ((at_builtin; refine wp_appS rfl _ _ 30 rfl 3 (.int .i64 0) 8 Try.underlying30 Try.infoInt rfl (.slice (some ⟨w4.heap.size, 0, none⟩) 0 0) [] (natVals fl) (some ad) n c4 rfl rfl HONE.out hE HSE.out (fun h => by cases h) L1 L2 ?_; intro a5 cap5 w5 hrow5 hk5 hg5; have hk5 : Kept [w4.heap.size] (w4.alloc (.cells #[] 3)) w5 := by { have h := hk5; simpa [foot, Value.ownBlock] using h }; have hkA : Kept [] w4 w5 := ((Kept.refl [] w4).alloc _).trans hk5 (by intro x hx; simp at hx; subst hx; exact .inr (Nat.le_refl _)); have hB5 := HA4.out.kept hkA (by simp); have r0 := hB5.cell (i := 0) (u := .slice none 0 0) rfl; have r1 := hB5.cell (i := 1) (u := .slice none 0 0) rfl; have f0 := hB5.free 0; have f1 := hB5.free 1; have hlt5 := hB5.lt))
  have hrow5 : Row w5 3 (.slice a5 n cap5) (natVals fl) := by
    have h := hrow5
    rw [List.length_nil, Nat.zero_add, List.nil_append] at h
    exact h
  have s0 := ((hB5.set 0 (.slice (some ⟨w5.heap.size, 0, none⟩) 2 2)).set 1 (.slice (some ⟨gK, 0, none⟩) G G)).cell (i := 0) (u := .slice (some ⟨w5.heap.size, 0, none⟩) 2 2) rfl
  have s1 := ((hB5.set 0 (.slice (some ⟨w5.heap.size, 0, none⟩) 2 2)).set 1 (.slice (some ⟨gK, 0, none⟩) G G)).cell (i := 1) (u := .slice (some ⟨gK, 0, none⟩) G G) rfl
  have hst : Kept [w.heap.size] w5 ((w5.setCell ⟨w.heap.size, 0, none⟩ (.slice (some ⟨w5.heap.size, 0, none⟩) 2 2)).setCell ⟨w.heap.size, 1, none⟩ (.slice (some ⟨gK, 0, none⟩) G G)) := ((Kept.refl [w.heap.size] w5).setCell (p := ⟨w.heap.size, 0, none⟩) (by simp) _).setCell (p := ⟨w.heap.size, 1, none⟩) (by simp) _
  have hsz : ((w5.setCell ⟨w.heap.size, 0, none⟩ (.slice (some ⟨w5.heap.size, 0, none⟩) 2 2)).setCell ⟨w.heap.size, 1, none⟩ (.slice (some ⟨gK, 0, none⟩) G G)).heap.size = w5.heap.size := by simp [World.setCell]
  obtain ⟨W6, hW6⟩ : ∃ W6, (w5.setCell ⟨w.heap.size, 0, none⟩ (.slice (some ⟨w5.heap.size, 0, none⟩) 2 2)).setCell ⟨w.heap.size, 1, none⟩ (.slice (some ⟨gK, 0, none⟩) G G) = W6 := ⟨_, rfl⟩
  rw [hW6] at s0 s1 hst hsz ⊢
  have hal : Kept [] W6 (W6.alloc (.cells #[.slice (some ad) n c4, .slice a5 n cap5] 30)) := (Kept.refl _ _).alloc _
  have s2 := hal.cellOf s0 (by simp)
  have s3 := hal.cellOf s1 (by simp)
  have hAB : Arr (W6.alloc (.cells #[.slice (some ad) n c4, .slice a5 n cap5] 30)) w5.heap.size 30 [.slice (some ad) n c4, .slice a5 n cap5] := Arr.newAt W6 _ _ _ hsz
  obtain ⟨WF, hWF⟩ : ∃ WF, W6.alloc (.cells #[.slice (some ad) n c4, .slice a5 n cap5] 30) = WF := ⟨_, rfl⟩
  rw [hWF] at hal s2 s3 hAB ⊢
  have hkF : Kept [w.heap.size] w5 WF := hst.trans hal (by simp)
  refine bodyPost_ret (v := .tuple #[planV (some ⟨w5.heap.size, 0, none⟩) 2 2 (some ⟨gK, 0, none⟩) G G, .int .i64 0]) (by simp [results, Try.results32, go_sem, planV, s2, s3]) rfl ?_
  have hk4F : Kept [w.heap.size] w4 WF := (hkA.mono (by simp)).trans hkF (fun x hx => .inl hx)
  have hrows : ∀ (W : World) (a' : Option Addr) (c' : Nat), Row W 3 (.slice a' n c') (natVals fl) → Kept [w.heap.size] W WF → Apart (footA a') [w.heap.size] → n ≤ c' ∧ c' ≤ maxLen ∧ Sees WF 1 a' n (intVals (castI fl)) := by
    intro W a' c' hr hk ha
    have hln := hr.len
    obtain ⟨a2, c2, hv, h1, h2, h3, -⟩ := hr.sees
    injection hv with e1 e2 e3
    subst e3
    refine ⟨by omega, h2, ?_⟩
    rw [castI_vals]
    exact hr.seeA.kept hk ha
  have hap5 : Apart (footA a5) [w.heap.size] := by
    intro y hy hm
    simp at hm
    subst hm
    have hg : Grew (w4.alloc (.cells #[] 3)).heap.size (foot (.slice (some ⟨w4.heap.size, 0, none⟩) 0 0)) (foot (.slice a5 (([] : List Value).length + n) cap5)) := hg5
    have hlt4 := HA4.out.lt
    rcases hg _ (by rw [foot_slice]; exact hy) with h | h
    · simp [foot, Value.ownBlock] at h; omega
    · simp at h; omega
  obtain ⟨q1, q2, q3⟩ := hrows w4 (some ad) c4 HR4.out hk4F HF4.out
  obtain ⟨q4, q5, q6⟩ := hrows w5 a5 cap5 hrow5 hkF hap5
  have hfl : (castI fl).length = n := by rw [castI_length]; exact HFL.out
  rw [HFP.out]
  have hpp : flatPP (castI L) = castI (List.replicate G 0) := by unfold flatPP castI; rw [List.length_map, HGG.out]; simp
  rw [hpp]
  have hpl : (castI (List.replicate G 0)).length = G := by rw [castI_length]; simp
  have hPF : Sees WF 1 (some ⟨gK, 0, none⟩) G (intVals (castI (List.replicate G 0))) := by
    rw [castI_vals]
    refine HRK4.out.seeA.kept hk4F ?_
    intro y hy hm
    simp [footA] at hy hm
    have := HGK.out
    omega
  have hS : SeesM WF (some ⟨w5.heap.size, 0, none⟩) 2 ([castI fl, castI fl].map intVals) := by
    refine ⟨[.slice (some ad) n c4, .slice a5 n cap5], ⟨rfl, fun j u hj => ⟨_, _, rfl, ?_⟩⟩, rfl, fun j u r hj hr => ?_⟩
    · rw [Nat.zero_add]; exact hAB.cell hj
    · have hln : (intVals (castI fl)).length = n := by rw [intVals_length]; exact hfl
      match j, hj, hr with
      | 0, hj, hr =>
        simp at hj hr
        subst hj; subst hr
        exact ⟨some ad, c4, by rw [hln], by rw [hln]; exact q3, by rw [hln]; exact q1, q2⟩
      | 1, hj, hr =>
        simp at hj hr
        subst hj; subst hr
        exact ⟨a5, cap5, by rw [hln], by rw [hln]; exact q6, by rw [hln]; exact q4, q5⟩
      | j + 2, hj, hr => simp at hj
  refine ⟨some ⟨w5.heap.size, 0, none⟩, 2, some ⟨gK, 0, none⟩, G, by rw [hpl]; rfl, ⟨hS, by rw [hpl]; exact hPF, by simp, by rw [hpl]; omega, ?_⟩, (HK4.out.trans hkA (by simp)).trans hkF (by intro x hx; simp at hx; subst hx; exact .inr (Nat.le_refl _)), by simp, by rw [hpl]; exact Nat.le_refl _⟩
  intro t ht
  simp at ht
  rw [ht, hfl]; omega
theorem rflatG_any (a : Option Addr) (c : Nat) (xs : List Int) (n : Int) (w : World) (h : Sees w 1 a xs.length (intVals xs)) (hl : xs.length ≤ 10000) :
    Calls Try.prog 32 #[.slice a xs.length c, .int .i64 n] w (PlanPost (flatGR xs n).1 (flatGR xs n).2.1 (flatGR xs n).2.2 w) := by
  unfold flatGR
  cases hm : K.mayListL xs n with
  | false => exact rflatG_bad a c xs n w h (by omega) hm
  | true =>
    obtain ⟨-, h3, h258, -, -, hall⟩ := cnt_may hm
    have e := castI_natsOf xs (fun s hs => (hall s hs).1)
    obtain ⟨n, rfl⟩ := Int.eq_ofNat_of_zero_le (show 0 ≤ n by omega)
    rw [Int.toNat_natCast]
    obtain ⟨L, hL⟩ : ∃ L, K.natsOf xs = L := ⟨_, rfl⟩
    rw [hL] at e
    subst e
    rw [castI_length] at h hl ⊢
    rw [castI_vals] at h
    exact rflatG_good a c L n w h hm hl
/-- What Best answers. -/
noncomputable def bestGR (xs : List Int) (n : Int) : List (List Int) × List Int × Nat :=
  if (chooseR xs n).2.2 = 0 then (if (K.sizeGR (flatGR xs n).1 (flatGR xs n).2.1 xs).1 < (K.sizeGR (chooseR xs n).1 (chooseR xs n).2.1 xs).1 then ((flatGR xs n).1, (flatGR xs n).2.1, 0) else ((chooseR xs n).1, (chooseR xs n).2.1, 0)) else ([], [], (chooseR xs n).2.2)
end Go.Proofs.Ytdaenajhgbagdaa
