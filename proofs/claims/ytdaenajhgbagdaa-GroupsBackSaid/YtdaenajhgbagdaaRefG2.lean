/-
  The walks of layer 11's references: Bits, Show.
-/
import Derived.Test.YtdaenajhgbagdaaRefG
import Derived.Test.YtdaenajhgbagdaaGrpF
import Derived.BigQuiet
namespace Go.Proofs.Ytdaenajhgbagdaa
open Go.RowKit
set_option linter.unusedVariables false
set_option linter.unusedSimpArgs false

/-- What a function leaves that answers a list of bits and an error. -/
def BoolsPost (R : List Bool × Nat) (w : World) (e : Ending) (w' : World) : Prop :=
  ∃ a c, e = .returned (.tuple #[.slice a R.1.length c, .int .i64 (R.2 : Nat)]) ∧ Row w' 3 (.slice a R.1.length c) (bis R.1) ∧ Kept [] w w'
/-- A plan's bits, or none. -/
def bitsRR (T : List (List Int)) (P : List Int) : List Bool × Nat := if K.mayPlan T P then (K.planBits T P, 0) else ([], 110)
theorem headP_six {T : List (List Int)} {P : List Int} (h : K.mayPlan T P = true) : K.headP T P = K.low T.length 3 ++ (K.low P.length 15 ++ K.mtf (List.range 6) (K.natsOf P)) := by
  obtain ⟨h1, -, -, h4⟩ := K.mayPlan_get h
  have e : List.range 6 = List.range T.length ++ (List.range (6 - T.length)).map (T.length + ·) := by
    rw [← List.range_add, show T.length + (6 - T.length) = 6 by omega]
  unfold K.headP
  rw [e, K.mtf_rest _ _ _ (K.natsOf_mem h4)]
theorem rbits_bad (aT aP : Option Addr) (cT cP : Nat) (T : List (List Int)) (P : List Int) (w : World) (h : PlanAt w aT aP cT cP T P) (hno : K.mayPlan T P = false) :
    Calls Try.prog 46 #[planV aT T.length cT aP P.length cP] w (BoolsPost (bitsRR T P) w) := by
  have HR := Lib.hid (show bitsRR T P = ([], 110) by unfold bitsRR; rw [hno]; rfl)
  have hk : Kept [] w (w.alloc (.cells #[.slice aT T.length cT, .slice aP P.length cP] 32)) := (Kept.refl [] w).alloc _
  have p1 := h.kept hk
  have hA := Arr.new w [.slice aT T.length cT, .slice aP P.length cP] 32
  have M := grmay_any aT aP cT cP T P _ p1.tabs p1.picks p1.tl p1.pl p1.rl
  rw [hno] at M
  unfold planV at M ⊢
  have b0 := hA.cell (i := 0) (u := .slice aT T.length cT) rfl
  have b1 := hA.cell (i := 1) (u := .slice aP P.length cP) rfl
  have HK := Lib.hid hk
  clear hk hA p1 h hno
  go_enter Try.func46, Try.ntmps46
  go_wp2_with fail
  refine M.mono ?_
  rintro e w2 ⟨rfl, hk2⟩
  have HK2 := Lib.hid (HK.out.trans hk2 (by simp))
  clear hk2 M
  go_wp2_with fail
  go_ret2
  rw [HR.out]
  exact ⟨none, 0, rfl, Row.nil _ _, HK2.out⟩

/-- What a row that was appended to leaves of all the rest. -/
theorem app_keeps {W wr w6 : World} {ao a6 aO : Option Addr} {n co n6 c6 m : Nat} {xs : List Value} (hk : Kept (foot (.slice ao n co)) wr w6) (hg : Grew wr.heap.size (foot (.slice ao n co)) (foot (.slice a6 n6 c6))) (hW : Kept [] W wr) (hf : Fresh W.heap.size (footA ao))
    (hap : Apart (footA aO) (footA ao)) (hs : Sees wr 1 aO m xs) (h0 : 0 < xs.length := by rw [natVals_length]; omega) : Kept [] W w6 ∧ Fresh W.heap.size (footA a6) ∧ Apart (footA aO) (footA a6) := by
  rw [foot_slice] at hk hg
  rw [foot_slice] at hg
  exact ⟨hW.new hk hf, hf.grow hg hW.size, hap.grow (fun x hx => hs.lt h0 x hx) hg⟩
theorem showBits_pos (t : List Int) : 0 < (K.showBits t).length := by unfold K.showBits; rw [List.length_append, K.low_length]; omega
/-- In Bits's first loop: i picks are told. -/
def RBitA (w0 W : World) (T : List (List Int)) (P : List Int) (k : Nat) (vo vr v : Value) (wr : World) : Prop :=
  ∃ (i : Nat) (B : List Bool) (ao aO : Option Addr) (co cO : Nat) (ord : List Nat), k = P.length - i ∧ i ≤ P.length ∧ v = .int .i64 (i : Nat) ∧ vo = .slice ao B.length co ∧ vr = .slice aO 6 cO ∧ B.length ≤ 100 + 7 * i ∧ Hid (Row wr 3 (.slice ao B.length co) (bis B)) ∧
    Hid (Sees wr 1 aO 6 (natVals ord)) ∧ Hid (ord.length = 6 ∧ ∀ x, x < T.length → x ∈ ord) ∧ Hid (K.headP T P = B ++ K.mtf ord ((K.natsOf P).drop i)) ∧ Hid (Apart (footA aO) (footA ao)) ∧ Hid (Kept [] W wr) ∧ Hid (Fresh W.heap.size (footA ao))
/-- In its inner loop: j places are passed. -/
def RBitB (W : World) (ord : List Nat) (B : List Bool) (aO : Option Addr) (idx : Nat) (k : Nat) (vo v : Value) (wr : World) : Prop :=
  ∃ (j : Nat) (ao : Option Addr) (co : Nat), k = idx - j ∧ j ≤ idx ∧ v = .int .i64 (j : Nat) ∧ vo = .slice ao (B.length + j) co ∧ Hid (Row wr 3 (.slice ao (B.length + j) co) (bis (B ++ List.replicate j true))) ∧ Hid (Sees wr 1 aO 6 (natVals ord)) ∧ Hid (Apart (footA aO) (footA ao)) ∧ Hid (Kept [] W wr) ∧ Hid (Fresh W.heap.size (footA ao))
/-- In its last loop: k tables are told behind the head. -/
def RBitC (W : World) (T : List (List Int)) (P : List Int) (m : Nat) (vo v : Value) (wr : World) : Prop :=
  ∃ (k : Nat) (B : List Bool) (a : Option Addr) (c : Nat), m = T.length - k ∧ k ≤ T.length ∧ vo = .slice a B.length c ∧ v = .int .i64 (k : Nat) ∧ B.length ≤ 200000 + 20000 * k ∧ Hid (B = K.headP T P ++ (T.take k).flatMap K.showBits) ∧ Hid (Row wr 3 (.slice a B.length c) (bis B)) ∧ Hid (Kept [] W wr) ∧ Hid (Fresh W.heap.size (footA a))
set_option maxRecDepth 100000 in
set_option maxHeartbeats 2000000 in
theorem rbits_good (aT aP : Option Addr) (cT cP : Nat) (T : List (List Int)) (P : List Int) (w : World) (h : PlanAt w aT aP cT cP T P) (hyes : K.mayPlan T P = true) :
    Calls Try.prog 46 #[planV aT T.length cT aP P.length cP] w (BoolsPost (bitsRR T P) w) := by
  have HR := Lib.hid (show bitsRR T P = (K.planBits T P, 0) by unfold bitsRR; rw [hyes]; rfl)
  obtain ⟨hT, hP, hTab, hPick⟩ := K.mayPlan_get hyes
  have HTAB := Lib.hid hTab
  have HPICK := Lib.hid hPick
  have HSIX := Lib.hid (headP_six hyes)
  have HHL := Lib.hid (K.headP_length hyes)
  have hk : Kept [] w (w.alloc (.cells #[.slice aT T.length cT, .slice aP P.length cP] 32)) := (Kept.refl [] w).alloc _
  have p1 := h.kept hk
  have hA := Arr.new w [.slice aT T.length cT, .slice aP P.length cP] 32
  have M := grmay_any aT aP cT cP T P _ p1.tabs p1.picks p1.tl p1.pl p1.rl
  rw [hyes] at M
  unfold planV at M ⊢
  have b0 := hA.cell (i := 0) (u := .slice aT T.length cT) rfl
  have b1 := hA.cell (i := 1) (u := .slice aP P.length cP) rfl
  have HK := Lib.hid hk
  have HA := Lib.hid hA
  have HPL := Lib.hid p1
  clear hk hA p1 h hyes hTab hPick
  go_enter Try.func46, Try.ntmps46
  go_wp2_with fail
  refine M.mono ?_
  rintro e w2 ⟨rfl, hk2⟩
  have HK2 := Lib.hid (HK.out.trans hk2 (by simp))
  have HA2 := Lib.hid (HA.out.kept hk2 (by simp))
  have HPL2 := Lib.hid (HPL.out.kept hk2)
  clear hk2 M b0 b1 HK HA HPL
  have c0 := HA2.out.cell (i := 0) (u := .slice aT T.length cT) rfl
  have hw1 : IntKind.u64.wrap (T.length : Int) = (T.length : Int) := by rw [IntKind.wrap_u64]; omega
  have hw2 : IntKind.u64.wrap (P.length : Int) = (P.length : Int) := by rw [IntKind.wrap_u64]; omega
  go_wp2_with fail
  have RB := refBits_ok T.length 3 w2 (by omega) (by omega)
  rw [show decide (T.length < 2 ^ 3) = true from decide_eq_true (by omega)] at RB
  refine RB.mono ?_
  clear RB
  rintro e w3 ⟨g3, rfl, hrow3, hk3, hg3⟩
  have HR3 := Lib.hid hrow3
  have HK3 := Lib.hid hk3
  have HF3 := Lib.hid hg3
  have c1 := (HA2.out.kept hk3 (by simp)).cell (i := 1) (u := .slice aP P.length cP) rfl
  clear c0 hrow3 hk3 hg3
  go_wp2_with fail
  have RB := refBits_ok P.length 15 w3 (by omega) (by omega)
  rw [show decide (P.length < 2 ^ 15) = true from decide_eq_true (by omega)] at RB
  refine RB.mono ?_
  clear RB
  rintro e w4 ⟨g4, rfl, hrow4, hk4, hg4⟩
  have HR4 := Lib.hid (HR3.out.kept hk4 (by simp))
  have HS4 := Lib.hid hrow4.seeA
  have HK4 := Lib.hid (HK3.out.trans hk4 (by simp))
  clear c1 hrow4 hk4
  have hr4 := HR4.out
  have L1 : (bis (K.low T.length 3)).length + 15 ≤ maxLen := by rw [bis_length, K.low_length]; simp only [maxLen]; omega
  have L2 : ((bis (K.low T.length 3)).length + 15) * 8 ≤ 140737488355328 := by rw [bis_length, K.low_length]; omega
  go_wp2_with ((at_builtin; refine wp_appS rfl _ _ 30 rfl 3 (.int .i64 0) 8 Try.underlying30 Try.infoInt rfl (.slice (some ⟨g3, 0, none⟩) 3 3) (bis (K.low T.length 3)) (bis (K.low P.length 15)) (some ⟨g4, 0, none⟩) 15 15 rfl rfl (bis_oneC _) hr4 HS4.out (fun h => by cases h) L1 L2 ?_; intro a5 cap5 w5 hrow5 hk5 hg5))
  have e5 : (bis (K.low T.length 3)).length + 15 = (K.low T.length 3 ++ K.low P.length 15).length := by rw [bis_length, List.length_append, K.low_length, K.low_length]
  rw [← bis_append, e5] at hrow5
  rw [e5]
  have hk5 : Kept (foot (.slice (some ⟨g3, 0, none⟩) 3 3)) w4 w5 := hk5
  have hg5 : Grew w4.heap.size (foot (.slice (some ⟨g3, 0, none⟩) 3 3)) (foot (.slice a5 ((bis (K.low T.length 3)).length + 15) cap5)) := hg5
  rw [foot_slice] at hk5
  rw [foot_slice, foot_slice] at hg5
  have hf3 : Fresh w2.heap.size (footA (some ⟨g3, 0, none⟩)) := by intro y hy; simp [footA] at hy; subst hy; exact HF3.out
  have HK5 := Lib.hid ((HK4.out.new hk5 hf3).alloc (.cells #[.int .i64 0, .int .i64 1, .int .i64 2, .int .i64 3, .int .i64 4, .int .i64 5] 3))
  have HF5 := Lib.hid (hf3.grow hg5 HK4.out.size)
  have HR5 := Lib.hid (hrow5.alloc (.cells #[.int .i64 0, .int .i64 1, .int .i64 2, .int .i64 3, .int .i64 4, .int .i64 5] 3))
  have HS5 := Lib.hid (show Sees (w5.alloc (.cells #[.int .i64 0, .int .i64 1, .int .i64 2, .int .i64 3, .int .i64 4, .int .i64 5] 3)) 1 (some ⟨w5.heap.size, 0, none⟩) 6 (natVals (List.range 6)) from Sees.lit (news := natVals (List.range 6)) rfl)
  have HP5 := Lib.hid (show Apart (footA (some ⟨w5.heap.size, 0, none⟩)) (footA a5) by
    intro y hy hm
    simp [footA] at hy
    have := hrow5.lt y (by rw [foot_slice]; exact hm)
    omega)
  have HE5 := Lib.hid (show K.headP T P = (K.low T.length 3 ++ K.low P.length 15) ++ K.mtf (List.range 6) ((K.natsOf P).drop 0) by rw [HSIX.out, List.drop_zero, List.append_assoc])
  have hBl : (K.low T.length 3 ++ K.low P.length 15).length ≤ 100 + 7 * 0 := by rw [List.length_append, K.low_length, K.low_length]; omega
  obtain ⟨B0, hB0⟩ : ∃ B0, K.low T.length 3 ++ K.low P.length 15 = B0 := ⟨_, rfl⟩
  rw [hB0] at HE5 hBl HR5 ⊢
  obtain ⟨W5, hW5⟩ : ∃ W5, w5.alloc (.cells #[.int .i64 0, .int .i64 1, .int .i64 2, .int .i64 3, .int .i64 4, .int .i64 5] 3) = W5 := ⟨_, rfl⟩
  rw [hW5] at HK5 HR5 HS5 ⊢
  clear hW5 hB0 hrow5 hk5 hg5 hf3 HR3 HR4 HS4 HK3 HK4 HF3 hr4 L1 L2 e5 hg4
  go_loopg [4, 8, 9] P.length (fun k vo vr v wr => RBitA w w2 T P k vo vr v wr)
  case atStart => exact ⟨0, B0, a5, _, cap5, 6, List.range 6, by omega, by omega, rfl, rfl, rfl, hBl, HR5, HS5, Lib.hid ⟨by simp, fun x hx => by simp; omega⟩, HE5, HP5, HK5, HF5⟩
  case round =>
    clear HK5 HR5 HS5 HP5 HE5 hBl HF5
    obtain ⟨i, B, ao, aO, co, cO, ord, hk, hi, rfl, rfl, rfl, hBl, HRB, HSO, HO, HE, HAP, HKW, HF⟩ := hrel
    have Hk := Lib.hid hk
    clear hk
    have d1 := (HA2.out.kept HKW.out (by simp)).cell (i := 1) (u := .slice aP P.length cP) rfl
    by_cases hlt : i < P.length
    · have hli : (i : Int) < (P.length : Int) := by omega
      obtain ⟨x, hx⟩ : ∃ x, P[i]? = some x := ⟨_, List.getElem?_eq_getElem hlt⟩
      obtain ⟨hx0, hxT⟩ := HPICK.out x (List.mem_of_getElem? hx)
      obtain ⟨x, rfl⟩ := Int.eq_ofNat_of_zero_le hx0
      obtain ⟨bP, oP, rfl, -⟩ := HPL2.out.picks.at (by rw [intVals_length]; omega)
      have HX := Lib.hid hx
      clear hx
      obtain ⟨wq, rfl⟩ : ∃ wo : World, wo = wr := ⟨_, rfl⟩
      go_wp2_with fail
      have hxm : x ∈ ord := HO.out.2 x (by omega)
      obtain ⟨idx, hidx⟩ : ∃ idx, ord.idxOf x = idx := ⟨_, rfl⟩
      have hil : idx < ord.length := by rw [← hidx]; exact List.idxOf_lt_length_iff.2 hxm
      have hat : ord[idx]? = some x := by rw [← hidx, List.getElem?_eq_getElem (List.idxOf_lt_length_iff.2 hxm), List.getElem_idxOf]
      have hbef : ∀ j, j < idx → ∀ y, ord[j]? = some y → y ≠ x := by
        intro j hj y hy he
        rw [← hidx] at hj
        exact K.before_idx x ord j y hj hy he
      have HIDX := Lib.hid hidx
      have HAT := Lib.hid hat
      have HBEF := Lib.hid hbef
      have hol : ord.length = 6 := HO.out.1
      clear hxm hidx hat hbef d1
      go_loopg [4, 10] idx (fun k vo v wr => RBitB w2 ord B aO idx k vo v wr)
      case atStart => exact ⟨0, ao, co, by omega, by omega, rfl, rfl, by simpa using HRB, HSO, HAP, HKW, HF⟩
      case round =>
        clear HRB HSO HAP HKW HF
        obtain ⟨j, ao, co, hk, hj, rfl, rfl, HRB, HSO, HAP, HKW, HF⟩ := hrel
        have Hkj := Lib.hid hk
        clear hk
        obtain ⟨y, hy⟩ : ∃ y, ord[j]? = some y := ⟨_, List.getElem?_eq_getElem (by omega)⟩
        obtain ⟨bo, oo, rfl, hcells⟩ := HSO.out.at (by rw [natVals_length]; omega)
        have e0 := hcells j _ (nv_get hy)
        have d1 := (HA2.out.kept HKW.out (by simp)).cell (i := 1) (u := .slice (some ⟨bP, oP, none⟩) P.length cP) rfl
        have e1 := (HPL2.out.kept HKW.out).picks.int HX.out
        have hj6 : (j : Int) < 6 := by omega
        clear hcells
        by_cases hjx : j < idx
        · have hyx := HBEF.out j hjx y hy
          have g1 : ((y : Int) != (x : Int)) = true := by simp; omega
          have g2 : ((y : Int) == (x : Int)) = false := by simp; omega
          go_wp2_with fail
          go_quiet (fail)
          have HRB := Lib.hid (HRB.out.drewN nq)
          have HSO := Lib.hid (HSO.out.kept0 ((Kept.refl [] wr).drewN nq))
          have HKW := Lib.hid (HKW.out.drewN nq)
          have hrow := HRB.out
          obtain ⟨WQ, hWQ⟩ : ∃ WQ, wr.drewN nq = WQ := ⟨_, rfl⟩
          rw [hWQ] at hrow HRB HSO HKW ⊢
          clear hWQ e0 d1
          have L1 : (bis (B ++ List.replicate j true)).length + 1 ≤ maxLen := by rw [bis_length, List.length_append, List.length_replicate]; simp only [maxLen]; omega
          have L2 : ((bis (B ++ List.replicate j true)).length + 1) * 8 ≤ 140737488355328 := by rw [bis_length, List.length_append, List.length_replicate]; omega
          go_wp2_with ((at_builtin; refine wp_appL _ rfl _ _ 30 rfl 3 (.int .i64 0) 8 Try.underlying30 Try.infoInt rfl _ _ [.int .i64 1] 1 rfl rfl rfl rfl (by simp [Value.oneCell']) hrow L1 L2 ?_; intro a6 cap6 w6 hrow6 hk6 hg6))
          go_roundg (idx - (j + 1))
          case measure => have := Hkj.out; omega
          case rel =>
            have hk6 : Kept (foot (.slice (ao) (B.length + j) co)) WQ w6 := hk6
            have e1 : bis (B ++ List.replicate j true) ++ [Value.int .i64 1] = bis (B ++ List.replicate (j + 1) true) := by rw [List.replicate_succ', ← List.append_assoc, bis_append (B ++ List.replicate j true)]; rfl
            have e2 : (bis (B ++ List.replicate j true)).length + 1 = B.length + (j + 1) := by rw [bis_length, List.length_append, List.length_replicate]; omega
            rw [e1, e2] at hrow6
            obtain ⟨hk7, hf7, hp7⟩ := app_keeps hk6 hg6 HKW.out HF.out HAP.out HSO.out
            refine ⟨j + 1, a6, cap6, rfl, by omega, by simp, by rw [e2], Lib.hid hrow6, Lib.hid (HSO.out.kept hk6 (by rw [foot_slice]; exact HAP.out)), Lib.hid hp7, Lib.hid hk7, Lib.hid hf7⟩
        · obtain rfl : j = idx := by omega
          have hyx : y = x := by
            have := HAT.out
            rw [hy] at this
            injection this
          have g1 : ((y : Int) != (x : Int)) = false := by rw [hyx]; simp
          have g2 : ((y : Int) == (x : Int)) = true := by rw [hyx]; simp
          have L1 : (bis (B ++ List.replicate j true)).length + 1 ≤ maxLen := by rw [bis_length, List.length_append, List.length_replicate]; simp only [maxLen]; omega
          have L2 : ((bis (B ++ List.replicate j true)).length + 1) * 8 ≤ 140737488355328 := by rw [bis_length, List.length_append, List.length_replicate]; omega
          clear hy hyx
          go_wp2_with fail
          go_quiet (fail)
          have HRB := Lib.hid (HRB.out.drewN nq)
          have HSO := Lib.hid (HSO.out.kept0 ((Kept.refl [] wr).drewN nq))
          have HKW := Lib.hid (HKW.out.drewN nq)
          have hrow := HRB.out
          obtain ⟨WQ, hWQ⟩ : ∃ WQ, wr.drewN nq = WQ := ⟨_, rfl⟩
          rw [hWQ] at hrow HRB HSO HKW ⊢
          clear hWQ e0 d1
          go_wp2_with ((at_builtin; refine wp_appL _ rfl _ _ 30 rfl 3 (.int .i64 0) 8 Try.underlying30 Try.infoInt rfl _ _ [.int .i64 0] 1 rfl rfl rfl rfl (by simp [Value.oneCell']) hrow L1 L2 ?_; intro a6 cap6 w6 hrow6 hk6 hg6))
          have hk6 : Kept (foot (.slice (ao) (B.length + j) co)) WQ w6 := hk6
          obtain ⟨hk7, hf7, hp7⟩ := app_keeps hk6 hg6 HKW.out HF.out HAP.out HSO.out
          have hs6 := HSO.out.kept hk6 (by rw [foot_slice]; exact HAP.out)
          have e1 : bis (B ++ List.replicate j true) ++ [Value.int .i64 0] = bis (B ++ List.replicate j true ++ [false]) := by rw [bis_append (B ++ List.replicate j true)]; rfl
          have e2 : (bis (B ++ List.replicate j true)).length + 1 = (B ++ List.replicate j true ++ [false]).length := by rw [bis_length]; simp; try omega
          rw [e1, e2] at hrow6
          rw [e2]
          have HRB6 := Lib.hid hrow6
          have HK6 := Lib.hid hk7
          have HF6 := Lib.hid hf7
          have TU := rturnG_any (some ⟨bo, oo, none⟩) cO j ord w6 (by rw [hol]; exact hs6) hil (by omega)
          rw [hol] at TU
          unfold OwnPost at TU
          rw [K.turned_length _ _ hil, hol] at TU
          clear hrow6 hk6 hg6 hk7 hf7 hp7 hs6 e1 e2 L1 L2 hrow HRB HSO HKW
          refine TU.mono ?_
          rintro e w8 ⟨a8, c8, rfl, hrow8, hk8, hf8⟩
          have HR8 := Lib.hid (show Row w8 3 (.slice a8 6 c8) (natVals (K.turned ord j)) from hrow8)
          have HK8 := Lib.hid (HK6.out.trans hk8 (by simp))
          have HRB8 := Lib.hid (HRB6.out.kept hk8 (by simp))
          have HAP8 := Lib.hid (show Apart (footA a8) (footA a6) by
            intro y hy hm
            have h1 := hf8 y hy
            have h2 := HRB6.out.lt y (by rw [foot_slice]; exact hm)
            omega)
          clear TU hrow8 hk8 hf8 HRB6 HK6
          go_wp2_with fail
          go_roundg (P.length - (i + 1))
          case measure => have := Hk.out; omega
          case rel =>
            have hpi : (K.natsOf P)[i]? = some x := by rw [K.natsOf, List.getElem?_map, HX.out]; rfl
            have hdr : (K.natsOf P).drop i = x :: (K.natsOf P).drop (i + 1) := by
              obtain ⟨hl2, hv2⟩ := List.getElem?_eq_some_iff.1 hpi
              rw [List.drop_eq_getElem_cons hl2, hv2]
            have he := HE.out
            rw [hdr, K.mtf, HIDX.out] at he
            refine ⟨i + 1, B ++ List.replicate j true ++ [false], a6, a8, cap6, c8, K.turned ord j, rfl, by omega, by simp, by congr 1; simp; try omega, rfl, by simp; omega, HRB8, Lib.hid HR8.out.seeA, Lib.hid ⟨by rw [K.turned_length _ _ hil]; exact hol, fun z hz => by rw [K.turned_mem _ _ hil]; exact HO.out.2 z hz⟩, Lib.hid ?_, HAP8, HK8, HF6⟩
            rw [he]
            simp
    · obtain rfl : i = P.length := by omega
      have hll : ¬ (P.length : Int) < (P.length : Int) := by omega
      have he := HE.out
      rw [List.drop_of_length_le (by rw [K.natsOf_length]; exact Nat.le_refl _), K.mtf, List.append_nil] at he
      have HEB := Lib.hid he
      have hBl2 : B.length ≤ 200000 := by rw [← he]; exact HHL.out
      clear he HE HSO HO HAP Hk
      obtain ⟨wq, rfl⟩ : ∃ wo : World, wo = wr := ⟨_, rfl⟩
      go_wp2_with fail
      clear d1
      go_loopg [4, 11] T.length (fun k vo v wr => RBitC w2 T P k vo v wr)
      case atStart => exact ⟨0, B, ao, co, by omega, by omega, rfl, rfl, by omega, Lib.hid (by rw [HEB.out]; simp), HRB, HKW, HF⟩
      case round =>
        clear HRB HKW HF hBl hBl2 HEB
        obtain ⟨k, B, a9, c9, hk, hkT, rfl, rfl, hBl, HEB, HRB, HKW, HF⟩ := hrel
        have Hk := Lib.hid hk
        clear hk
        have d0 := (HA2.out.kept HKW.out (by simp)).cell (i := 0) (u := .slice aT T.length cT) rfl
        by_cases hlt : k < T.length
        · have hli : (k : Int) < (T.length : Int) := by omega
          obtain ⟨t, ht⟩ : ∃ t, T[k]? = some t := ⟨_, List.getElem?_eq_getElem hlt⟩
          obtain ⟨bT, oT, ar, cr, rfl, e0, hsr, -⟩ := (HPL2.out.kept HKW.out).tabs.int ht
          have hok := (HTAB.out t (List.mem_of_getElem? ht)).2.2
          have htl := HPL2.out.rl t (List.mem_of_getElem? ht)
          have HLO := Lib.hid (K.goodL_lens hok)
          have HTI := Lib.hid ht
          have HSR := Lib.hid hsr
          clear ht hsr hok
          go_wp2_with fail
          refine (rput_any ar cr t _ HSR.out (by omega)).mono ?_
          rintro e w8 ⟨-, hp2, hk8⟩
          obtain ⟨a8, c8, rfl, hrow8⟩ := hp2 HLO.out
          have hsl := K.showBits_len t HLO.out
          have HRB8 := Lib.hid (HRB.out.kept hk8 (by simp))
          have hrow := HRB8.out
          have HK8 := Lib.hid (HKW.out.trans hk8 (by simp))
          have HS8 := Lib.hid hrow8.seeA
          have HPOS := Lib.hid (show 0 < (bis (K.showBits t)).length by rw [bis_length]; exact showBits_pos t)
          clear hp2 hrow8 hk8 d0 e0
          have L1 : (bis B).length + (K.showBits t).length ≤ maxLen := by rw [bis_length]; simp only [maxLen]; omega
          have L2 : ((bis B).length + (K.showBits t).length) * 8 ≤ 140737488355328 := by rw [bis_length]; omega
          obtain ⟨g8, o8, rfl, -⟩ := HS8.out.at HPOS.out
          go_wp2_with ((at_builtin; refine wp_appS rfl _ _ 30 rfl 3 (.int .i64 0) 8 Try.underlying30 Try.infoInt rfl (.slice a9 B.length c9) (bis B) (bis (K.showBits t)) (some ⟨g8, o8, none⟩) (K.showBits t).length c8 rfl rfl (bis_oneC _) hrow HS8.out (fun h => by cases h) L1 L2 ?_; intro a6 cap6 w6 hrow6 hk6 hg6))
          go_roundg (T.length - (k + 1))
          case measure => have := Hk.out; omega
          case rel =>
            have hk7 : Kept (foot (.slice a9 B.length c9)) w8 w6 := hk6
            have hg7 : Grew w8.heap.size (foot (.slice a9 B.length c9)) (foot (.slice a6 ((bis B).length + (K.showBits t).length) cap6)) := hg6
            rw [foot_slice] at hk7 hg7
            rw [foot_slice] at hg7
            have e2 : (bis B).length + (K.showBits t).length = (B ++ K.showBits t).length := by rw [bis_length, List.length_append]
            rw [← bis_append, e2] at hrow6
            refine ⟨k + 1, B ++ K.showBits t, a6, cap6, rfl, by omega, by rw [e2], by simp, by rw [List.length_append]; omega, Lib.hid ?_, Lib.hid hrow6, Lib.hid (HK8.out.new hk7 HF.out), Lib.hid (HF.out.grow hg7 HK8.out.size)⟩
            rw [HEB.out, List.take_add_one, HTI.out, List.flatMap_append, List.append_assoc]
            simp
        · obtain rfl : k = T.length := by omega
          have hll : ¬ (T.length : Int) < (T.length : Int) := by omega
          have he : B = K.planBits T P := by rw [HEB.out, List.take_length]; rfl
          subst he
          go_wp2_with fail
          go_ret2
          rw [HR.out]
          exact ⟨a9, c9, rfl, HRB.out, HK2.out.trans HKW.out (by simp)⟩
end Go.Proofs.Ytdaenajhgbagdaa
