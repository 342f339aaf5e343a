/-
  The walk of groups.Get.
-/
import Derived.Test.YtdaenajhgbagdaaGrpX
import Derived.Test.YtdaenajhgbagdaaPlainG
import Derived.Test.YtdaenajhgbagdaaPreY
import Derived.Test.YtdaenajhgbagdaaHufRef
namespace Go.Proofs.Ytdaenajhgbagdaa
open Go.RowKit
set_option linter.unusedVariables false
set_option linter.unusedSimpArgs false

theorem gget_bad (aT aP : Option Addr) (cT cP : Nat) (T : List (List Int)) (P : List Int) (s : ByteArray) (at_ : Int) (w : World) (h : PlanAt w aT aP cT cP T P) (hno : K.mayPlan T P = false) :
    Calls Try.prog 18 #[planV aT T.length cT aP P.length cP, .string s, .int .i64 at_] w (NatsAtPost (K.getR T P (K.bitsOf s.data.toList) at_) w) := by
  have HR := Lib.hid (show K.getR T P (K.bitsOf s.data.toList) at_ = ([], 0, 110) by unfold K.getR; rw [hno]; rfl)
  have hk : Kept [] w (w.alloc (.cells #[.slice aT T.length cT, .slice aP P.length cP] 32)) := (Kept.refl [] w).alloc _
  have p1 := h.kept hk
  have hA := Arr.new w [.slice aT T.length cT, .slice aP P.length cP] 32
  have M := gmay_any aT aP cT cP T P _ p1.tabs p1.picks p1.tl p1.pl p1.rl
  rw [hno] at M
  unfold planV at M ⊢
  have b0 := hA.cell (i := 0) (u := .slice aT T.length cT) rfl
  have b1 := hA.cell (i := 1) (u := .slice aP P.length cP) rfl
  have HK := Lib.hid hk
  clear hk hA p1 h hno
  go_enter Try.func18, Try.ntmps18
  go_wp2_with fail
  refine M.mono ?_
  rintro e w2 ⟨rfl, hk2⟩
  have HK2 := Lib.hid (HK.out.trans hk2 (by simp))
  clear hk2 M
  go_wp2_with fail
  go_ret3
  rw [HR.out]
  exact NatsAtPost.err (by rfl) HK2.out

/-- So many groups are read. -/
def GetI (W : World) (T : List (List Int)) (P : List Int) (bs : List Bool) (en : Int) (R : List Nat × Nat × Nat) (k : Nat) (vo v2 v : Value) (wr : World) : Prop :=
  ∃ (i p : Nat) (out : List Nat) (a : Option Addr) (c : Nat), k = P.length - i ∧ i ≤ P.length ∧ v = .int .i64 (i : Nat) ∧ v2 = .int .i64 (p : Nat) ∧ p ≤ bs.length ∧ vo = .slice a out.length c ∧ out.length ≤ 50 * i ∧ Hid (R = K.getGo T bs en (P.drop i) out p) ∧
    Hid (Row wr 3 (.slice a out.length c) (natVals out)) ∧ Hid (Kept [] W wr) ∧ Hid (Fresh W.heap.size (footA a))
set_option maxHeartbeats 1000000 in
theorem gget_good (aT aP : Option Addr) (cT cP : Nat) (T : List (List Int)) (P : List Int) (s : ByteArray) (at_ : Int) (w : World) (h : PlanAt w aT aP cT cP T P) (hyes : K.mayPlan T P = true) (hs : s.size ≤ 140737488351232) :
    Calls Try.prog 18 #[planV aT T.length cT aP P.length cP, .string s, .int .i64 at_] w (NatsAtPost (K.getR T P (K.bitsOf s.data.toList) at_) w) := by
  obtain ⟨hT, hP, hTab, hPick⟩ := K.mayPlan_get hyes
  have HTAB := Lib.hid hTab
  have HPICK := Lib.hid hPick
  have HBL := Lib.hid (bitsOf_len s)
  have hk : Kept [] w (w.alloc (.cells #[.slice aT T.length cT, .slice aP P.length cP] 32)) := (Kept.refl [] w).alloc _
  have p1 := h.kept hk
  have hA := Arr.new w [.slice aT T.length cT, .slice aP P.length cP] 32
  have M := gmay_any aT aP cT cP T P _ p1.tabs p1.picks p1.tl p1.pl p1.rl
  rw [hyes] at M
  unfold planV at M ⊢
  have b0 := hA.cell (i := 0) (u := .slice aT T.length cT) rfl
  have b1 := hA.cell (i := 1) (u := .slice aP P.length cP) rfl
  have HK := Lib.hid hk
  have HA := Lib.hid hA
  have HPL := Lib.hid p1
  have HY := Lib.hid hyes
  clear hk hA p1 h hyes hTab hPick
  by_cases hb : at_ < 0 ∨ (8 * s.size : Nat) < at_
  · have HR := Lib.hid (show K.getR T P (K.bitsOf s.data.toList) at_ = ([], 0, 2) by
      unfold K.getR; rw [HY.out, if_pos rfl, if_pos (by rw [HBL.out]; omega)])
    by_cases h1 : at_ < 0
    · have g1 : decide (at_ < 0) = true := decide_eq_true h1
      clear hb
      go_enter Try.func18, Try.ntmps18
      go_wp2_with fail
      refine M.mono ?_
      rintro e w2 ⟨rfl, hk2⟩
      have HK2 := Lib.hid (HK.out.trans hk2 (by simp))
      clear hk2 M
      go_wp2_with fail
      go_ret3
      rw [HR.out]
      exact NatsAtPost.err (by rfl) HK2.out
    · have g1 : decide (at_ < 0) = false := decide_eq_false h1
      have g2 : decide (8 * (s.size : Int) < at_) = true := by simp; omega
      clear hb
      go_enter Try.func18, Try.ntmps18
      go_wp2_with fail
      refine M.mono ?_
      rintro e w2 ⟨rfl, hk2⟩
      have HK2 := Lib.hid (HK.out.trans hk2 (by simp))
      clear hk2 M
      go_wp2_with fail
      go_ret3
      rw [HR.out]
      exact NatsAtPost.err (by rfl) HK2.out
  · obtain ⟨p, rfl⟩ := Int.eq_ofNat_of_zero_le (show 0 ≤ at_ by omega)
    have hp8 : p ≤ 8 * s.size := by omega
    have g1 : decide ((p : Int) < 0) = false := by simp
    have g2 : decide (8 * (s.size : Int) < (p : Int)) = false := by simp; omega
    obtain ⟨t0, ht0⟩ : ∃ t, T[0]? = some t := ⟨_, List.getElem?_eq_getElem (by omega)⟩
    have HT0 := Lib.hid (show T.getD 0 [] = t0 by rw [List.getD, ht0]; rfl)
    have ht0l := HPL.out.rl t0 (List.mem_of_getElem? ht0)
    have ht03 := (HTAB.out t0 (List.mem_of_getElem? ht0)).2.1
    have HR := Lib.hid (show K.getR T P (K.bitsOf s.data.toList) (p : Int) = K.getGo T (K.bitsOf s.data.toList) ((t0.length : Int) - 1) P [] p by
      unfold K.getR; rw [HY.out, if_pos rfl, if_neg (by rw [HBL.out]; omega), HT0.out, Int.toNat_natCast])
    have HTI := Lib.hid ht0
    have hTpos : (0 : Int) < (T.length : Int) := by omega
    clear ht0 hb
    go_enter Try.func18, Try.ntmps18
    go_wp2_with fail
    refine M.mono ?_
    rintro e w2 ⟨rfl, hk2⟩
    have HK2 := Lib.hid (HK.out.trans hk2 (by simp))
    have HA2 := Lib.hid (HA.out.kept hk2 (by simp))
    have HPL2 := Lib.hid (HPL.out.kept hk2)
    clear hk2 M b0 b1 HA HPL HK
    obtain ⟨bT, oT, ar, cr, rfl, e0, -, -⟩ := HPL2.out.tabs.int HTI.out
    rw [Nat.add_zero] at e0
    obtain ⟨bP, oP, rfl, -⟩ := HPL2.out.picks.at (by rw [intVals_length]; omega)
    have c0 := HA2.out.cell (i := 0) (u := .slice (some ⟨bT, oT, none⟩) T.length cT) rfl
    have c1 := HA2.out.cell (i := 1) (u := .slice (some ⟨bP, oP, none⟩) P.length cP) rfl
    go_wp2_with fail
    clear c0 c1 e0
    obtain ⟨R, hR⟩ : ∃ R, K.getGo T (K.bitsOf s.data.toList) ((t0.length : Int) - 1) P [] p = R := ⟨_, rfl⟩
    have HRR := Lib.hid hR.symm
    have HRF := Lib.hid (HR.out.trans hR)
    clear hR HR
    go_loopg [10, 2, 37] P.length (fun k vo v2 v wr => GetI w2 T P (K.bitsOf s.data.toList) ((t0.length : Int) - 1) R k vo v2 v wr)
    case atStart => exact ⟨0, p, [], none, 0, by omega, by omega, rfl, rfl, by rw [HBL.out]; exact hp8, rfl, by simp, by simpa using HRR, Lib.hid (Row.nil _ _), Lib.hid (Kept.refl _ _), Lib.hid (by simp [Fresh, footA])⟩
    case round =>
      clear HRR
      obtain ⟨i, q, out, ao, co, hk, hi, rfl, rfl, hq, rfl, hol, HRR, HRO, HKW, HF⟩ := hrel
      have Hk := Lib.hid hk
      clear hk
      by_cases hlt : i < P.length
      · have hli : (i : Int) < (P.length : Int) := by omega
        obtain ⟨x, hx⟩ : ∃ x, P[i]? = some x := ⟨_, List.getElem?_eq_getElem hlt⟩
        obtain ⟨hx0, hxT⟩ := HPICK.out x (List.mem_of_getElem? hx)
        obtain ⟨x, rfl⟩ := Int.eq_ofNat_of_zero_le hx0
        obtain ⟨t, ht⟩ : ∃ t, T[x]? = some t := ⟨_, List.getElem?_eq_getElem (by omega)⟩
        have d0 := (HPL2.out.kept HKW.out).picks.int hx
        obtain ⟨bT', oT', ar', cr', eT, d1, hsr, -⟩ := (HPL2.out.kept HKW.out).tabs.int ht
        cases eT
        have d2 := (HA2.out.kept HKW.out (by simp)).cell (i := 0) (u := .slice (some ⟨bT, oT, none⟩) T.length cT) rfl
        have htl := HPL2.out.rl t (List.mem_of_getElem? ht)
        have HXI := Lib.hid hx
        have HTX := Lib.hid ht
        have HSR := Lib.hid hsr
        clear hx ht hsr hx0
        go_wp2_with fail
        obtain ⟨A, hA'⟩ : ∃ A, K.allR t (K.bitsOf s.data.toList) (q : Int) 50 ((t0.length : Int) - 1) = A := ⟨_, rfl⟩
        have M := all_wide ar' cr' t s (q : Int) 50 ((t0.length : Int) - 1) wr HSR.out (by omega) hs (.inr (by omega))
        have htt := K.allR_to t (K.bitsOf s.data.toList) q ((t0.length : Int) - 1)
        have hln := K.allR_len t (K.bitsOf s.data.toList) q ((t0.length : Int) - 1)
        have hgo : K.getGo T (K.bitsOf s.data.toList) ((t0.length : Int) - 1) (P.drop i) out q = if A.2.2 ≠ 0 then ([], 0, A.2.2) else if ((A.1.getD (A.1.length - 1) 0 : Nat) : Int) = (t0.length : Int) - 1 then (out ++ A.1, A.2.1, 0) else K.getGo T (K.bitsOf s.data.toList) ((t0.length : Int) - 1) (P.drop (i + 1)) (out ++ A.1) A.2.1 := by
          obtain ⟨hl2, hv2⟩ := List.getElem?_eq_some_iff.1 HXI.out
          rw [List.drop_eq_getElem_cons hl2, hv2, K.getGo, Int.toNat_natCast, show T.getD x [] = t by rw [List.getD, HTX.out]; rfl]
          simp only [hA']
        rw [hA'] at M htt hln
        have HGO := Lib.hid hgo
        clear hgo hA'
        obtain ⟨l, tt, er⟩ := A
        refine M.mono ?_
        rintro e w5 ⟨a5, c5, rfl, hrow5, hk5, hf5⟩
        simp only at hrow5 hf5 htt hln
        have HGO2 := Lib.hid (HRR.out.trans HGO.out)
        have HK5 := Lib.hid (HKW.out.trans hk5 (by simp))
        have HRO5 := Lib.hid (HRO.out.kept hk5 (by simp))
        have HF5 := Lib.hid hf5
        have HR5 := Lib.hid hrow5
        have HAP := Lib.hid (show Apart (footA a5) (foot (.slice ao out.length co)) by
          intro y hy hm
          have h1 := hf5 y hy
          have h2 := HRO.out.lt y hm
          omega)
        clear hrow5 hk5 hf5 M HGO HRR HRO HKW d0 d1 d2
        by_cases her : er = 0
        · subst her
          have htt' := htt rfl
          obtain ⟨hl1, hl50⟩ := hln rfl
          obtain ⟨m, hm⟩ : ∃ m, l.length = m + 1 := ⟨l.length - 1, by omega⟩
          obtain ⟨z, hz⟩ : ∃ z, l[m]? = some z := ⟨_, List.getElem?_eq_getElem (by omega)⟩
          have HZ := Lib.hid (show l.getD (l.length - 1) 0 = z by rw [hm, Nat.add_sub_cancel, List.getD, hz]; rfl)
          have hone : ∀ u ∈ natVals l, u.oneCell' = true := natVals_oneC l
          obtain ⟨g5, o5, rfl, -⟩ := HR5.out.seeA.at (by rw [natVals_length]; omega)
          have hsl := HR5.out.seeA
          have hno : (natVals out).length = out.length := natVals_length out
          have HONE := Lib.hid hone
          have HZI := Lib.hid hz
          have HSL := Lib.hid hsl
          have hro := HRO5.out
          have L1 : (natVals out).length + l.length ≤ maxLen := by rw [hno]; simp only [maxLen]; omega
          have L2 : ((natVals out).length + l.length) * 8 ≤ 140737488355328 := by rw [hno]; omega
          have HM := Lib.hid hm
          have hmi : (l.length : Int) - 1 = (m : Int) := by omega
          have hm0 : m < l.length := by omega
          clear hz hone hsl htt hln hm
          have HGS := Lib.hid (show ∀ (a6 : Option Addr) (cap6 : Nat) (w6 : World), Row w6 3 (.slice a6 ((natVals out).length + l.length) cap6) (natVals out ++ natVals l) → Kept (foot (.slice ao out.length co)) w5 w6 →
              Grew w5.heap.size (foot (.slice ao out.length co)) (foot (.slice a6 ((natVals out).length + l.length) cap6)) →
              Row w6 3 (.slice a6 (out ++ l).length cap6) (natVals (out ++ l)) ∧ Kept [] w2 w6 ∧ Fresh w2.heap.size (foot (.slice a6 ((natVals out).length + l.length) cap6)) from by
            intro a6 cap6 w6 h1 h2 h3
            have e : natVals out ++ natVals l = natVals (out ++ l) := by simp [natVals]
            have e2 : (natVals out).length + l.length = (out ++ l).length := by rw [hno, List.length_append]
            refine ⟨by rw [← e, ← e2]; exact h1, HK5.out.new h2 (by rw [foot_slice]; exact HF.out), ?_⟩
            exact Fresh.grow (by rw [foot_slice]; exact HF.out) h3 HK5.out.size)
          have HNO := Lib.hid hno
          clear hno
          by_cases heq : (z : Int) = (t0.length : Int) - 1
          · have q1 : ((z : Int) == (t0.length : Int) - 1) = true := by simp [heq]
            have HE := Lib.hid (show R = (out ++ l, tt, 0) by rw [HGO2.out, if_neg (by simp), if_pos (by rw [HZ.out]; exact heq)])
            clear heq
            go_wp2_with ((at_builtin; refine wp_appS rfl _ _ 30 rfl 3 (.int .i64 0) 8 Try.underlying30 Try.infoInt rfl (.slice ao out.length co) (natVals out) (natVals l) (some ⟨g5, o5, none⟩) l.length c5 rfl rfl HONE.out hro HSL.out (fun h => by cases h) L1 L2 ?_; intro a6 cap6 w6 hrow6 hk6 hg6; have k0 := (HSL.out.kept hk6 HAP.out).natD HZI.out))
            go_ret3
            obtain ⟨r1, r2, r3⟩ := HGS.out _ _ _ hrow6 hk6 hg6
            rw [HRF.out, HE.out]
            exact NatsAtPost.ok2 (List.length_append ..) (by rw [← HNO.out]; rfl) r1 (HK2.out.trans r2 (by simp)) (fun y hy => Nat.le_trans HK2.out.size (r3 y (by simpa [foot_slice] using hy)))
          · have q1 : ((z : Int) == (t0.length : Int) - 1) = false := by simp [heq]
            have HE := Lib.hid (show R = K.getGo T (K.bitsOf s.data.toList) ((t0.length : Int) - 1) (P.drop (i + 1)) (out ++ l) tt by rw [HGO2.out, if_neg (by simp), if_neg (by rw [HZ.out]; exact heq)])
            clear heq
            go_wp2_with ((at_builtin; refine wp_appS rfl _ _ 30 rfl 3 (.int .i64 0) 8 Try.underlying30 Try.infoInt rfl (.slice ao out.length co) (natVals out) (natVals l) (some ⟨g5, o5, none⟩) l.length c5 rfl rfl HONE.out hro HSL.out (fun h => by cases h) L1 L2 ?_; intro a6 cap6 w6 hrow6 hk6 hg6; have k0 := (HSL.out.kept hk6 HAP.out).natD HZI.out))
            go_roundg (P.length - (i + 1))
            case measure => have := Hk.out; omega
            case rel =>
              obtain ⟨r1, r2, r3⟩ := HGS.out _ _ _ hrow6 hk6 hg6
              exact ⟨i + 1, tt, out ++ l, a6, cap6, rfl, by omega, by simp, rfl, htt', by rw [List.length_append, HNO.out], by rw [List.length_append]; omega, HE, Lib.hid r1, Lib.hid r2, Lib.hid (by rw [foot_slice] at r3; exact r3)⟩
        · have g3 : ((er : Int) != 0) = true := bne_iff_ne.2 (by omega)
          have HE := Lib.hid (show R = ([], 0, er) by rw [HGO2.out, if_pos her])
          clear htt hln her
          go_wp2_with fail
          go_ret3
          rw [HRF.out, HE.out]
          exact NatsAtPost.err (by rfl) (HK2.out.trans HK5.out (by simp))
      · obtain rfl : i = P.length := by omega
        have hll : ¬ (P.length : Int) < (P.length : Int) := by omega
        have HE := Lib.hid (show R = ([], 0, 110) by rw [HRR.out, List.drop_of_length_le (Nat.le_refl _)]; rfl)
        go_wp2_with fail
        go_ret3
        rw [HRF.out, HE.out]
        exact NatsAtPost.err (by rfl) (HK2.out.trans HKW.out (by simp))
end Go.Proofs.Ytdaenajhgbagdaa
