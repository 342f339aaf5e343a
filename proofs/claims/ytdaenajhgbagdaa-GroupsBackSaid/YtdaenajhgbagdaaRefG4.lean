/-
  The walk of layer 11's reference Get.
-/
import Derived.Test.YtdaenajhgbagdaaGrpX
import Derived.Test.YtdaenajhgbagdaaPlainG
import Derived.Test.YtdaenajhgbagdaaPreK
import Derived.Test.YtdaenajhgbagdaaRefG3
namespace Go.Proofs.Ytdaenajhgbagdaa
open Go.RowKit
set_option linter.unusedVariables false
set_option linter.unusedSimpArgs false

theorem Try.infoRows : (Try.prog.info? 29).map (fun i => (i.zero, i.size, i.bytes)) = some (some (.slice none 0 0), 1, 24) := by kernel_rfl
/-- The slice values vs show tables of rows, whatever turns in the blocks F. -/
def Tabs3 (w : World) (F : List Nat) (vs : List Value) (Ts : List (List (List Bool))) : Prop :=
  vs.length = Ts.length ∧ ∀ (i : Nat) (u : Value) (t : List (List Bool)), vs[i]? = some u → Ts[i]? = some t → ∃ g, u = .slice (some ⟨g, 0, none⟩) t.length t.length ∧ ∀ w', Kept F w w' → SeesM w' (some ⟨g, 0, none⟩) t.length (t.map bis)
theorem Tabs3.step {w w2 : World} {F F2 : List Nat} {vs : List Value} {Ts : List (List (List Bool))} (h : Tabs3 w F vs Ts) (hk : Kept F w w2) (hg : Grew w.heap.size F F2) : Tabs3 w2 F2 vs Ts :=
  ⟨h.1, fun i u t h1 h2 => by
    obtain ⟨g, h3, h4⟩ := h.2 i u t h1 h2
    exact ⟨g, h3, fun w' hw => h4 w' (hk.trans hw hg)⟩⟩
theorem Tabs3.kept0 {w w2 : World} {F : List Nat} {vs : List Value} {Ts : List (List (List Bool))} (h : Tabs3 w F vs Ts) (hk : Kept [] w w2) : Tabs3 w2 F vs Ts := h.step (hk.mono (by simp)) (Grew.refl _ _)
theorem Tabs3.nil (w : World) (F : List Nat) : Tabs3 w F [] [] := ⟨rfl, fun i u t h => by simp at h⟩
theorem Tabs3.snoc {w0 w : World} {F : List Nat} {vs : List Value} {Ts : List (List (List Bool))} (h : Tabs3 w F vs Ts) (hF : ∀ x ∈ F, x < w0.heap.size) {g n : Nat} {t : List (List Bool)} (hn : t.length = n)
    (hs : ∀ S w'', Kept S w w'' → (∀ x ∈ S, x < w0.heap.size) → SeesM w'' (some ⟨g, 0, none⟩) n (t.map bis)) : Tabs3 w F (vs ++ [.slice (some ⟨g, 0, none⟩) n n]) (Ts ++ [t]) := by
  subst hn
  refine ⟨by simp [h.1], fun i u t' h1 h2 => ?_⟩
  rcases Nat.lt_or_ge i vs.length with hl | hl
  · rw [List.getElem?_append_left hl] at h1
    rw [List.getElem?_append_left (by rw [← h.1]; exact hl)] at h2
    exact h.2 i u t' h1 h2
  · rw [List.getElem?_append_right hl] at h1
    rw [List.getElem?_append_right (by rw [← h.1]; exact hl)] at h2
    have h0 : i - vs.length = 0 := by
      have := (List.getElem?_eq_some_iff.1 h1).1
      simp at this; omega
    rw [h0] at h1
    rw [← h.1, h0] at h2
    simp at h1 h2
    subst h1 h2
    exact ⟨g, rfl, fun w' hw => hs F w' hw hF⟩
theorem Tabs3.at {w : World} {F : List Nat} {vs : List Value} {Ts : List (List (List Bool))} (h : Tabs3 w F vs Ts) {i : Nat} {t : List (List Bool)} (ht : Ts[i]? = some t) :
    ∃ g, vs[i]? = some (.slice (some ⟨g, 0, none⟩) t.length t.length) ∧ SeesM w (some ⟨g, 0, none⟩) t.length (t.map bis) := by
  obtain ⟨u, hu⟩ : ∃ u, vs[i]? = some u := ⟨_, List.getElem?_eq_getElem (by rw [h.1]; exact (List.getElem?_eq_some_iff.1 ht).1)⟩
  obtain ⟨g, rfl, hs⟩ := h.2 i u t hu ht
  exact ⟨g, hu, hs w (Kept.refl _ _)⟩
/-- The tables of codes. -/
def codT (T : List (List Int)) : List (List (List Bool)) := T.map fun t => K.tabP (K.natsOf t)
theorem codT_get {T : List (List Int)} {i : Nat} {t : List Int} (h : T[i]? = some t) : (codT T)[i]? = some (K.tabP (K.natsOf t)) := by simp [codT, h]
/-- In the loops that make the tables of codes: i are made. -/
def RTabs (W : World) (T : List (List Int)) (k : Nat) (vt v : Value) (wr : World) : Prop :=
  ∃ (i : Nat) (vs : List Value) (a : Option Addr) (c : Nat), k = T.length - i ∧ i ≤ T.length ∧ v = .int .i64 (i : Nat) ∧ vt = .slice a i c ∧ Hid (Row wr 29 (.slice a i c) vs) ∧ Hid (Tabs3 wr (footA a) vs (codT (T.take i))) ∧ Hid (Kept [] W wr) ∧ Hid (Fresh W.heap.size (footA a))
/-- What stands behind an append to the tables. -/
theorem rtabs_next {W wr w3 w6 : World} {T : List (List Int)} {i g n : Nat} {t : List Int} {vs : List Value} {a a6 : Option Addr} {c c6 : Nat} (ht : T[i]? = some t) (hn : t.length = n) (hR : Row wr 29 (.slice a i c) vs)
    (hT : Tabs3 wr (footA a) vs (codT (T.take i))) (hK : Kept [] W wr) (hF : Fresh W.heap.size (footA a)) (hk3 : Kept [] wr w3) (hs : ∀ S w'', Kept S w3 w'' → (∀ x ∈ S, x < wr.heap.size) → SeesM w'' (some ⟨g, 0, none⟩) n ((K.tabP (K.natsOf t)).map bis))
    (hr6 : Row w6 29 (.slice a6 (vs.length + 1) c6) (vs ++ [.slice (some ⟨g, 0, none⟩) n n])) (hk6 : Kept (foot (.slice a i c)) w3 w6) (hg6 : Grew w3.heap.size (foot (.slice a i c)) (foot (.slice a6 (vs.length + 1) c6))) :
    Row w6 29 (.slice a6 (i + 1) c6) (vs ++ [.slice (some ⟨g, 0, none⟩) n n]) ∧ Tabs3 w6 (footA a6) (vs ++ [.slice (some ⟨g, 0, none⟩) n n]) (codT (T.take (i + 1))) ∧ Kept [] W w6 ∧ Fresh W.heap.size (footA a6) := by
  have hl := hR.len
  rw [hl] at hr6 hg6
  rw [foot_slice] at hk6 hg6
  rw [foot_slice] at hg6
  have hlt : ∀ x ∈ footA a, x < wr.heap.size := fun x hx => hR.lt x (by rw [foot_slice]; exact hx)
  have h1 := (hT.kept0 hk3).snoc (w0 := wr) hlt (t := K.tabP (K.natsOf t)) (by rw [K.tabP_length, K.natsOf_length, hn]) hs
  have e : codT (T.take (i + 1)) = codT (T.take i) ++ [K.tabP (K.natsOf t)] := by
    rw [List.take_add_one, ht]
    simp [codT]
  have hK3 := hK.trans hk3 (by simp)
  rw [e]
  exact ⟨hr6, h1.step hk6 hg6, hK3.new hk6 hF, hF.grow hg6 hK3.size⟩
theorem rgetG_bad (aT aP : Option Addr) (cT cP : Nat) (T : List (List Int)) (P : List Int) (b : Option Addr) (bc L : Nat) (bs : List Bool) (at_ : Int) (w : World) (h : PlanAt w aT aP cT cP T P) (hno : K.mayPlan T P = false) :
    Calls Try.prog 19 #[planV aT T.length cT aP P.length cP, .slice b L bc, .int .i64 at_] w (NatsAtPost (K.getR T P bs at_) w) := by
  have HR := Lib.hid (show K.getR T P bs at_ = ([], 0, 110) by unfold K.getR; rw [hno]; rfl)
  have hk : Kept [] w (w.alloc (.cells #[.slice aT T.length cT, .slice aP P.length cP] 32)) := (Kept.refl [] w).alloc _
  have p1 := h.kept hk
  have hA := Arr.new w [.slice aT T.length cT, .slice aP P.length cP] 32
  have M := grmay_any aT aP cT cP T P _ p1.tabs p1.picks p1.tl p1.pl p1.rl
  rw [hno] at M
  unfold planV at M ⊢
  have b0 := hA.cell (i := 0) (u := .slice aT T.length cT) rfl
  have b1 := hA.cell (i := 1) (u := .slice aP P.length cP) rfl
  have HK := Lib.hid hk
  clear hk hA p1 h hno
  go_enter Try.func19, Try.ntmps19
  go_wp2_with fail
  refine M.mono ?_
  rintro e w2 ⟨rfl, hk2⟩
  have HK2 := Lib.hid (HK.out.trans hk2 (by simp))
  clear hk2 M
  go_wp2_with fail
  go_ret3
  rw [HR.out]
  exact NatsAtPost.err (by rfl) HK2.out
/-- In Get's second loop: i symbols are read. -/
def RGetB (W : World) (T : List (List Int)) (P : List Int) (bs : List Bool) (en : Int) (R : List Nat × Nat × Nat) (k : Nat) (vo v2 v : Value) (wr : World) : Prop :=
  ∃ (i p : Nat) (out : List Nat) (a : Option Addr) (c : Nat), k = 50 * P.length - i ∧ i ≤ 50 * P.length ∧ v = .int .i64 (i : Nat) ∧ v2 = .int .i64 (p : Nat) ∧ p ≤ bs.length ∧ vo = .slice a out.length c ∧ out.length ≤ i ∧
    Hid (R = K.rgetGo T bs en P (50 * P.length - i) i out p) ∧ Hid (Row wr 3 (.slice a out.length c) (natVals out)) ∧ Hid (Kept [] W wr) ∧ Hid (Fresh W.heap.size (footA a))
set_option maxHeartbeats 2000000 in
theorem rgetG_good (aT aP : Option Addr) (cT cP : Nat) (T : List (List Int)) (P : List Int) (b : Option Addr) (bc L : Nat) (bs : List Bool) (at_ : Int) (w : World) (h : PlanAt w aT aP cT cP T P) (hyes : K.mayPlan T P = true)
    (hb : Sees w 1 b L (bis bs)) (hL : bs.length = L) (hl : L ≤ 1000000000000) (hlc : L ≤ bc) :
    Calls Try.prog 19 #[planV aT T.length cT aP P.length cP, .slice b L bc, .int .i64 at_] w (NatsAtPost (K.getR T P bs at_) w) := by
  obtain ⟨hT, hP, hTab, hPick⟩ := K.mayPlan_get hyes
  have HTAB := Lib.hid hTab
  have HPICK := Lib.hid hPick
  have HLL := Lib.hid hL
  have hk : Kept [] w (w.alloc (.cells #[.slice aT T.length cT, .slice aP P.length cP] 32)) := (Kept.refl [] w).alloc _
  have p1 := h.kept hk
  have hA := Arr.new w [.slice aT T.length cT, .slice aP P.length cP] 32
  have M := grmay_any aT aP cT cP T P _ p1.tabs p1.picks p1.tl p1.pl p1.rl
  rw [hyes] at M
  unfold planV at M ⊢
  have b0 := hA.cell (i := 0) (u := .slice aT T.length cT) rfl
  have b1 := hA.cell (i := 1) (u := .slice aP P.length cP) rfl
  have HK := Lib.hid hk
  have HA := Lib.hid hA
  have HPL := Lib.hid p1
  have HY := Lib.hid hyes
  have HB := Lib.hid (hb.kept0 hk)
  clear hk hA p1 h hyes hTab hPick hb hL
  by_cases hbad : at_ < 0 ∨ (L : Int) < at_
  · have HR := Lib.hid (show K.getR T P bs at_ = ([], 0, 2) by
      unfold K.getR; rw [HY.out, if_pos rfl, if_pos (by rw [HLL.out]; exact hbad)])
    by_cases h1 : at_ < 0
    · have g1 : decide (at_ < 0) = true := decide_eq_true h1
      clear hbad
      go_enter Try.func19, Try.ntmps19
      go_wp2_with fail
      refine M.mono ?_
      rintro e w2 ⟨rfl, hk2⟩
      have HK2 := Lib.hid (HK.out.trans hk2 (by simp))
      clear hk2 M
      go_wp2_with fail
      go_ret3
      rw [HR.out]
      exact NatsAtPost.err (by rfl) HK2.out
    · have g1 : decide (at_ < 0) = false := decide_eq_false h1
      have g2 : decide ((L : Int) < at_) = true := by simp; omega
      clear hbad
      go_enter Try.func19, Try.ntmps19
      go_wp2_with fail
      refine M.mono ?_
      rintro e w2 ⟨rfl, hk2⟩
      have HK2 := Lib.hid (HK.out.trans hk2 (by simp))
      clear hk2 M
      go_wp2_with fail
      go_ret3
      rw [HR.out]
      exact NatsAtPost.err (by rfl) HK2.out
  · obtain ⟨p, rfl⟩ := Int.eq_ofNat_of_zero_le (show 0 ≤ at_ by omega)
    have hpL : p ≤ L := by omega
    have g1 : decide ((p : Int) < 0) = false := by simp
    have g2 : ¬ L < p := by omega
    have g2i : ¬ (L : Int) < (p : Int) := by omega
    obtain ⟨t0, ht0⟩ : ∃ t, T[0]? = some t := ⟨_, List.getElem?_eq_getElem (by omega)⟩
    have HT0 := Lib.hid (show T.getD 0 [] = t0 by rw [List.getD, ht0]; rfl)
    have ht0l := HPL.out.rl t0 (List.mem_of_getElem? ht0)
    have ht03 := (HTAB.out t0 (List.mem_of_getElem? ht0)).2.1
    have HR := Lib.hid (show K.getR T P bs (p : Int) = K.rgetGo T bs ((t0.length : Int) - 1) P (50 * P.length) 0 [] p by
      unfold K.getR
      rw [HY.out, if_pos rfl, if_neg (by rw [HLL.out]; omega), HT0.out, Int.toNat_natCast]
      have := K.rget_get T bs ((t0.length : Int) - 1) P (fun x hx => by
        obtain ⟨h1, h2⟩ := HPICK.out x hx
        obtain ⟨t, ht⟩ : ∃ t, T[x.toNat]? = some t := ⟨_, List.getElem?_eq_getElem (by omega)⟩
        rw [List.getD, ht]
        exact (HTAB.out t (List.mem_of_getElem? ht)).2.2) P.length 0 [] p (by omega) (by rw [HLL.out]; exact hpL)
      rw [List.drop_zero, Nat.mul_zero] at this
      exact this.symm)
    have HTI := Lib.hid ht0
    have hTpos : (0 : Int) < (T.length : Int) := by omega
    clear ht0 hbad
    go_enter Try.func19, Try.ntmps19
    go_wp2_with fail
    refine M.mono ?_
    rintro e w2 ⟨rfl, hk2⟩
    have HK2 := Lib.hid (HK.out.trans hk2 (by simp))
    have HA2 := Lib.hid (HA.out.kept hk2 (by simp))
    have HPL2 := Lib.hid (HPL.out.kept hk2)
    have HB2 := Lib.hid (HB.out.kept0 hk2)
    clear hk2 M b0 b1 HA HPL HK HB
    go_wp2_with fail
    go_loopg [9, 10] T.length (fun k vt v wr => RTabs w2 T k vt v wr)
    case atStart => exact ⟨0, [], none, 0, by omega, by omega, rfl, rfl, Lib.hid (Row.nil _ _), Lib.hid (Tabs3.nil _ _), Lib.hid (Kept.refl _ _), Lib.hid (by simp [Fresh, footA])⟩
    case round =>
      obtain ⟨i, vs, a9, c9, hk, hi, rfl, rfl, HRW, HT3, HKW, HF⟩ := hrel
      have Hk := Lib.hid hk
      clear hk
      have d0 := (HA2.out.kept HKW.out (by simp)).cell (i := 0) (u := .slice aT T.length cT) rfl
      by_cases hlt : i < T.length
      · have hli : (i : Int) < (T.length : Int) := by omega
        obtain ⟨t, ht⟩ : ∃ t, T[i]? = some t := ⟨_, List.getElem?_eq_getElem hlt⟩
        obtain ⟨bT, oT, ar, cr, rfl, e0, hsr, -⟩ := (HPL2.out.kept HKW.out).tabs.int ht
        have hgt := (HTAB.out t (List.mem_of_getElem? ht)).2.2
        have HC := Lib.hid (rtable_new ar cr t wr hsr hgt)
        have HTI2 := Lib.hid ht
        clear ht hsr hgt
        go_wp2_with fail
        refine HC.out.mono ?_
        rintro e w3 ⟨g3, rfl, hk3, hs3⟩
        have HK3 := Lib.hid hk3
        have HS3 := Lib.hid hs3
        have hrow3 := HRW.out.kept hk3 (by simp)
        have hvl := HRW.out.len
        have L1 : vs.length + 1 ≤ maxLen := by rw [hvl]; simp only [maxLen]; omega
        have L2 : (vs.length + 1) * 24 ≤ 140737488355328 := by rw [hvl]; omega
        clear hk3 hs3 hvl
        go_wp2_with ((at_builtin; refine wp_appL _ rfl _ _ 82 rfl 29 (.slice none 0 0) 24 Try.underlying82 Try.infoRows rfl _ _ [.slice (some ⟨g3, 0, none⟩) t.length t.length] 1 rfl rfl rfl rfl (by simp [Value.oneCell']) hrow3 L1 L2 ?_; intro a6 cap6 w6 hrow6 hk6 hg6))
        go_roundg (T.length - (i + 1))
        case measure => have := Hk.out; omega
        case rel =>
          have hvl := HRW.out.len
          obtain ⟨r1, r2, r3, r4⟩ := rtabs_next HTI2.out rfl HRW.out HT3.out HKW.out HF.out HK3.out HS3.out hrow6 hk6 hg6
          exact ⟨i + 1, _, a6, cap6, rfl, by omega, by simp, by rw [hvl], Lib.hid r1, Lib.hid r2, Lib.hid r3, Lib.hid r4⟩
      · obtain rfl : i = T.length := by omega
        have hll : ¬ (T.length : Int) < (T.length : Int) := by omega
        obtain ⟨wt, rfl⟩ : ∃ wo : World, wo = wr := ⟨_, rfl⟩
        have ht3 := HT3.out
        rw [List.take_length] at ht3
        have HTT := Lib.hid ht3
        clear ht3 HT3 Hk
        go_wp2_with fail
        clear d0
        obtain ⟨R, hR⟩ : ∃ R, K.rgetGo T bs ((t0.length : Int) - 1) P (50 * P.length) 0 [] p = R := ⟨_, rfl⟩
        have HRR := Lib.hid hR.symm
        have HRF := Lib.hid (HR.out.trans hR)
        clear hR HR
        go_loopg [11, 2, 12] (50 * P.length) (fun k vo v2 v wr => RGetB wt T P bs ((t0.length : Int) - 1) R k vo v2 v wr)
        case atStart => exact ⟨0, p, [], none, 0, by omega, by omega, rfl, rfl, by rw [HLL.out]; exact hpL, rfl, by simp, HRR, Lib.hid (Row.nil _ _), Lib.hid (Kept.refl _ _), Lib.hid (by simp [Fresh, footA])⟩
        case round =>
          clear HRR
          obtain ⟨i, q, out, ao, co, hk, hi, rfl, rfl, hq, rfl, hol, HRR, HRO, HKO, HFO⟩ := hrel
          have Hk := Lib.hid hk
          clear hk
          rw [HLL.out] at hq
          have HKX := Lib.hid (HKW.out.trans HKO.out (by simp))
          have d1 := (HA2.out.kept HKX.out (by simp)).cell (i := 1) (u := .slice aP P.length cP) rfl
          by_cases hlt : i < 50 * P.length
          · have hli : (i : Int) < 50 * (P.length : Int) := by omega
            have hPi : i / 50 < P.length := by omega
            obtain ⟨x, hx⟩ : ∃ x, P[i / 50]? = some x := ⟨_, List.getElem?_eq_getElem hPi⟩
            obtain ⟨hx0, hxT⟩ := HPICK.out x (List.mem_of_getElem? hx)
            obtain ⟨x, rfl⟩ := Int.eq_ofNat_of_zero_le hx0
            obtain ⟨t, ht⟩ : ∃ t, T[x]? = some t := ⟨_, List.getElem?_eq_getElem (by omega)⟩
            have hgt := (HTAB.out t (List.mem_of_getElem? ht)).2.2
            obtain ⟨bP, oP, rfl, -⟩ := HPL2.out.picks.at (by rw [intVals_length]; omega)
            have d2 := (HPL2.out.kept HKX.out).picks.int hx
            obtain ⟨gt, hvx, hst⟩ := (HTT.out.kept0 HKO.out).at (codT_get ht)
            have hRW := HRW.out.kept HKO.out (by simp)
            obtain ⟨bV, cV, hv9, -, -, -, -⟩ := hRW.open (by rw [hRW.len]; omega)
            injection hv9 with e1 e2 e3
            subst e1
            clear e2 e3
            have d3 := hRW.cellAt hvx
            have d4 := (HA2.out.kept HKX.out (by simp)).cell (i := 0) (u := .slice aT T.length cT) rfl
            obtain ⟨bT, oT, ar, cr, rfl, e0, -, -⟩ := (HPL2.out.kept HKX.out).tabs.int HTI.out
            rw [Nat.add_zero] at e0
            have hgd := K.goodL_in hgt
            have hro := K.goodL_room hgt
            have htl : (K.tabP (K.natsOf t)).length = t.length := by rw [K.tabP_length, K.natsOf_length]
            have htx := ((K.lensOk_iff t).1 (K.goodL_lens hgt)).1
            have hcall := rnext_any (some ⟨gt, 0, none⟩) (K.tabP (K.natsOf t)).length (K.tabP (K.natsOf t)) b bc L bs q wr hst (HB2.out.kept0 HKX.out) HLL.out (by rw [htl]; omega) hl hlc hq
            rw [K.next_ref (K.natsOf t) hgd hro bs q (by rw [HLL.out]; exact hq), htl] at hcall
            rw [htl] at d3
            obtain ⟨j, hj⟩ : ∃ j, i / 50 = j := ⟨_, rfl⟩
            have hje : (i : Int) / 50 = (j : Int) := by omega
            have hstep : R = if (K.nextR (K.natsOf t) bs q).2.2 ≠ 0 then ([], 0, (K.nextR (K.natsOf t) bs q).2.2) else if ((K.nextR (K.natsOf t) bs q).1 : Int) = (t0.length : Int) - 1 then (out ++ [(K.nextR (K.natsOf t) bs q).1], (K.nextR (K.natsOf t) bs q).2.1, 0)
                else K.rgetGo T bs ((t0.length : Int) - 1) P (50 * P.length - (i + 1)) (i + 1) (out ++ [(K.nextR (K.natsOf t) bs q).1]) (K.nextR (K.natsOf t) bs q).2.1 := by
              have e5 : T.getD (P.getD (i / 50) 0).toNat [] = t := by
                rw [show P.getD (i / 50) 0 = (x : Int) by rw [List.getD, hx]; rfl, Int.toNat_natCast, List.getD, ht]; rfl
              rw [HRR.out, show 50 * P.length - i = (50 * P.length - (i + 1)) + 1 by omega, K.rgetGo, e5]
            rw [hj] at d2 hPi
            have hjP : (j : Int) < (P.length : Int) := by omega
            have hj0 : (0 : Int) ≤ (j : Int) := by omega
            have hsm := K.nextP_small (K.natsOf t) bs 20 1 0 q
            have hsm : (K.nextR (K.natsOf t) bs q).2.2 ≤ 90 := hsm
            have hto := K.nextR_to (K.natsOf t) bs q
            obtain ⟨⟨y, tt, er⟩, hN⟩ : ∃ N, K.nextR (K.natsOf t) bs q = N := ⟨_, rfl⟩
            rw [hN] at hcall hstep hsm hto
            have HC := Lib.hid hcall
            have HST := Lib.hid hstep
            have HTO := Lib.hid hto
            have hsm : er ≤ 90 := hsm
            clear hx ht hgt hvx hst hRW hgd hro htl hcall hstep hN hto hj hx0
            go_wp2_with fail
            refine HC.out.mono ?_
            rintro e w5 ⟨rfl, hk5⟩
            have HK5 := Lib.hid (HKO.out.trans hk5 (by simp))
            have HRO5 := Lib.hid (HRO.out.kept hk5 (by simp))
            have d5 := hk5.cellOf d4 (by simp)
            have d6 := hk5.cellOf e0 (by simp)
            have hne : w.heap.size ∉ foot (.slice ao out.length co) ∧ bT ∉ foot (.slice ao out.length co) := by
              rw [foot_slice]
              refine ⟨fun hm => ?_, fun hm => ?_⟩
              · have h1 := HFO.out _ hm
                have h2 := HA2.out.lt
                have h3 := HKW.out.size
                omega
              · have h1 := HFO.out _ hm
                have h2 := HPL2.out.tabs.int HTI.out
                obtain ⟨bT', oT', ar', cr', e7, e8, -, -⟩ := h2
                cases e7
                have h3 := World.block_lt_of_cell? w2 _ e8
                have h4 := HKW.out.size
                have h5 : bT < w2.heap.size := h3
                omega
            have HNE := Lib.hid hne
            clear hk5 d1 d2 d3 d4 e0 hne
            by_cases hz : er = 0
            · subst hz
              obtain ⟨hto1, hto2⟩ := HTO.out rfl
              have hto2 : tt ≤ bs.length := hto2
              have hro := HRO5.out
              have L1 : (natVals out).length + 1 ≤ maxLen := by rw [natVals_length]; simp only [maxLen]; omega
              have L2 : ((natVals out).length + 1) * 8 ≤ 140737488355328 := by rw [natVals_length]; omega
              have HGS := Lib.hid (show ∀ (a6 : Option Addr) (cap6 : Nat) (w6 : World), Row w6 3 (.slice a6 ((natVals out).length + 1) cap6) (natVals out ++ [.int .i64 (y : Int)]) → Kept (foot (.slice ao out.length co)) w5 w6 →
                  Grew w5.heap.size (foot (.slice ao out.length co)) (foot (.slice a6 ((natVals out).length + 1) cap6)) →
                  Row w6 3 (.slice a6 (out ++ [y]).length cap6) (natVals (out ++ [y])) ∧ Kept [] wt w6 ∧ Fresh wt.heap.size (footA a6) from by
                intro a6 cap6 w6 h1 h2 h3
                have e : natVals out ++ [Value.int .i64 (y : Int)] = natVals (out ++ [y]) := by simp [natVals]
                have e2 : (natVals out).length + 1 = (out ++ [y]).length := by rw [natVals_length, List.length_append]; rfl
                rw [foot_slice] at h2 h3
                rw [foot_slice] at h3
                exact ⟨by rw [← e, ← e2]; exact h1, HK5.out.new h2 HFO.out, HFO.out.grow h3 HK5.out.size⟩)
              by_cases heq : (y : Int) = (t0.length : Int) - 1
              · have q1 : ((y : Int) == (t0.length : Int) - 1) = true := by simp [heq]
                have HE := Lib.hid (show R = (out ++ [y], tt, 0) by rw [HST.out, if_neg (by simp), if_pos heq])
                clear heq hto1
                go_wp2_with ((at_builtin; refine wp_appL _ rfl _ _ 30 rfl 3 (.int .i64 0) 8 Try.underlying30 Try.infoInt rfl _ _ [.int .i64 (y : Int)] 1 rfl rfl rfl rfl (by simp [Value.oneCell']) hro L1 L2 ?_; intro a6 cap6 w6 hrow6 hk6 hg6; have k5 := hk6.cellOf d5 HNE.out.1; have k6 := hk6.cellOf d6 HNE.out.2))
                go_ret3
                obtain ⟨r1, r2, r3⟩ := HGS.out _ _ _ hrow6 hk6 hg6
                rw [HRF.out, HE.out]
                exact NatsAtPost.ok2 (by rw [List.length_append]) (by rw [natVals_length]; rfl) r1 (HK2.out.trans (HKW.out.trans r2 (by simp)) (by simp)) (fun y hy => Nat.le_trans HK2.out.size (Nat.le_trans HKW.out.size (r3 y (by simpa [foot_slice] using hy))))
              · have q1 : ((y : Int) == (t0.length : Int) - 1) = false := by simp [heq]
                have HE := Lib.hid (show R = K.rgetGo T bs ((t0.length : Int) - 1) P (50 * P.length - (i + 1)) (i + 1) (out ++ [y]) tt by rw [HST.out, if_neg (by simp), if_neg heq])
                clear heq hto1
                go_wp2_with ((at_builtin; refine wp_appL _ rfl _ _ 30 rfl 3 (.int .i64 0) 8 Try.underlying30 Try.infoInt rfl _ _ [.int .i64 (y : Int)] 1 rfl rfl rfl rfl (by simp [Value.oneCell']) hro L1 L2 ?_; intro a6 cap6 w6 hrow6 hk6 hg6; have k5 := hk6.cellOf d5 HNE.out.1; have k6 := hk6.cellOf d6 HNE.out.2))
                go_roundg (50 * P.length - (i + 1))
                case measure => have := Hk.out; omega
                case rel =>
                  obtain ⟨r1, r2, r3⟩ := HGS.out _ _ _ hrow6 hk6 hg6
                  exact ⟨i + 1, tt, out ++ [y], a6, cap6, rfl, by omega, by simp, rfl, hto2, by rw [natVals_length, List.length_append]; rfl, by rw [List.length_append]; simp; omega, HE, Lib.hid r1, Lib.hid r2, Lib.hid r3⟩
            · have g3 : ((er : Int) != 0) = true := bne_iff_ne.2 (by omega)
              have HE := Lib.hid (show R = ([], 0, er) by rw [HST.out, if_pos hz])
              clear hz
              go_wp2_with fail
              go_ret3
              rw [HRF.out, HE.out]
              exact NatsAtPost.err (by rfl) (HK2.out.trans (HKW.out.trans HK5.out (by simp)) (by simp))
          · obtain rfl : i = 50 * P.length := by omega
            have hll2 : ¬ ((50 * P.length : Nat) : Int) < 50 * (P.length : Int) := by omega
            have HE := Lib.hid (show R = ([], 0, 110) by rw [HRR.out, Nat.sub_self]; rfl)
            go_wp2_with fail
            go_ret3
            rw [HRF.out, HE.out]
            exact NatsAtPost.err (by rfl) (HK2.out.trans (HKW.out.trans HKO.out (by simp)) (by simp))
theorem rgetG_any (aT aP : Option Addr) (cT cP : Nat) (T : List (List Int)) (P : List Int) (b : Option Addr) (bc L : Nat) (bs : List Bool) (at_ : Int) (w : World) (h : PlanAt w aT aP cT cP T P)
    (hb : Sees w 1 b L (bis bs)) (hL : bs.length = L) (hl : L ≤ 1000000000000) (hlc : L ≤ bc) :
    Calls Try.prog 19 #[planV aT T.length cT aP P.length cP, .slice b L bc, .int .i64 at_] w (NatsAtPost (K.getR T P bs at_) w) := by
  rcases Bool.eq_false_or_eq_true (K.mayPlan T P) with hm | hm
  · exact rgetG_good aT aP cT cP T P b bc L bs at_ w h hm hb hL hl hlc
  · exact rgetG_bad aT aP cT cP T P b bc L bs at_ w h hm
end Go.Proofs.Ytdaenajhgbagdaa
