/-
  The walks of layer 11's references Put and Size, and of groups.Size.
-/
import Derived.Test.YtdaenajhgbagdaaRefG5
namespace Go.Proofs.Ytdaenajhgbagdaa
open Go.RowKit
set_option linter.unusedVariables false
set_option linter.unusedSimpArgs false

theorem codR_len (T : List (List Int)) (P L : List Int) : (K.codR T P L).1.length ≤ 20 * L.length ∧ ((K.codR T P L).2 = 0 → K.mayPlan T P = true) ∧ ((K.codR T P L).2 ≠ 0 → (K.codR T P L).1 = []) ∧ (K.codR T P L).2 ≤ 110 := by
  unfold K.codR
  cases h1 : K.mayPlan T P with
  | false => simp
  | true =>
    cases h2 : decide (K.groupsN L.length ≤ P.length) with
    | false => simp
    | true =>
      cases h3 : K.codG T P ((T.getD 0 []).length : Nat) 0 L with
      | none => simp
      | some B =>
        have := K.codG_len h1 _ L 0 B h3
        simpa using this
set_option maxHeartbeats 1000000 in
theorem rputG_any (aT aP aL : Option Addr) (cT cP cL : Nat) (T : List (List Int)) (P L : List Int) (w : World) (h : PlanAt w aT aP cT cP T P) (hL : Sees w 1 aL L.length (intVals L)) (hl : L.length ≤ 10000000) :
    Calls Try.prog 23 #[planV aT T.length cT aP P.length cP, .slice aL L.length cL] w (BitsPost (K.putGR T P L) w) := by
  have hk : Kept [] w ((w.alloc (.cells #[.slice aT T.length cT, .slice aP P.length cP] 32)).alloc (.cells #[.string ⟨#[]⟩, .int .i64 0] 35)) := ((Kept.refl [] w).alloc _).alloc _
  have hA : Arr ((w.alloc (.cells #[.slice aT T.length cT, .slice aP P.length cP] 32)).alloc (.cells #[.string ⟨#[]⟩, .int .i64 0] 35)) w.heap.size 32 [.slice aT T.length cT, .slice aP P.length cP] :=
    (Arr.new w [.slice aT T.length cT, .slice aP P.length cP] 32).kept ((Kept.refl [] _).alloc _) (by simp)
  have hB : Arr ((w.alloc (.cells #[.slice aT T.length cT, .slice aP P.length cP] 32)).alloc (.cells #[.string ⟨#[]⟩, .int .i64 0] 35)) (w.heap.size + 1) 35 [.string ⟨#[]⟩, .int .i64 0] := by
    have h := Arr.new (w.alloc (.cells #[.slice aT T.length cT, .slice aP P.length cP] 32)) [.string ⟨#[]⟩, .int .i64 0] 35
    rwa [show (w.alloc (.cells #[.slice aT T.length cT, .slice aP P.length cP] 32)).heap.size = w.heap.size + 1 by simp] at h
  have M := rcodesG_any aT aP aL cT cP cL T P L _ (h.kept hk) (hL.kept0 hk) hl
  unfold planV at M ⊢
  have b0 := hA.cell (i := 0) (u := .slice aT T.length cT) rfl
  have b1 := hA.cell (i := 1) (u := .slice aP P.length cP) rfl
  have HK := Lib.hid hk
  have HB := Lib.hid hB
  obtain ⟨hlen, -, herr, her⟩ := codR_len T P L
  obtain ⟨⟨B, er⟩, hR⟩ : ∃ R, K.codR T P L = R := ⟨_, rfl⟩
  rw [hR] at M hlen herr her
  have hlen : B.length ≤ 20 * L.length := hlen
  have her : er ≤ 110 := her
  have HRR := Lib.hid hR
  clear hA hB h hk hL hR
  by_cases hz : er = 0
  · subst hz
    have HR := Lib.hid (show K.putGR T P L = (K.pack B, ((B.length : Nat) : Int), 0) by unfold K.putGR; rw [HRR.out]; rfl)
    clear herr
    go_enter Try.func23, Try.ntmps23
    go_wp2_with fail
    refine M.mono ?_
    rintro e w2 ⟨a2, c2, rfl, hrow2, hk2⟩
    have HK2 := Lib.hid (HK.out.trans hk2 (by simp))
    have HB2 := Lib.hid (HB.out.kept hk2 (by simp))
    have hs2 : Sees w2 1 a2 B.length (bis B) := hrow2.seeA
    clear hrow2 hk2 M b0 b1
    go_wp2_with fail
    refine (refText_ok a2 c2 B w2 (by omega) hs2).mono ?_
    rintro e w3 ⟨rfl, hk3⟩
    have hB3 := HB2.out.kept hk3 (by simp)
    have HK3 := Lib.hid (HK2.out.trans hk3 (by simp))
    have r0 := hB3.cell (i := 0) (u := .string ⟨#[]⟩) rfl
    have r1 := hB3.cell (i := 1) (u := .int .i64 0) rfl
    have f0 := hB3.free 0
    have f1 := hB3.free 1
    have s0 := ((hB3.set 0 (.string ⟨(K.pack B).toArray⟩)).set 1 (.int .i64 (B.length : Nat))).cell (i := 0) (u := .string ⟨(K.pack B).toArray⟩) rfl
    have s1 := ((hB3.set 0 (.string ⟨(K.pack B).toArray⟩)).set 1 (.int .i64 (B.length : Nat))).cell (i := 1) (u := .int .i64 (B.length : Nat)) rfl
    clear hB3 hk3 hs2
    go_wp2_with fail
    refine bodyPost_ret (v := bitsV (K.pack B, ((B.length : Nat) : Int), 0)) (by simp [results, Try.results23, go_sem, bitsV, s0, s1]) rfl ?_
    exact ⟨by rw [HR.out], (HK3.out.setCell (p := ⟨w.heap.size + 1, 0, none⟩) (.inr (by simp)) _).setCell (p := ⟨w.heap.size + 1, 1, none⟩) (.inr (by simp)) _⟩
  · have hB0 : B = [] := herr hz
    subst hB0
    have HR := Lib.hid (show K.putGR T P L = ([], 0, er) by unfold K.putGR; rw [HRR.out, if_neg hz])
    have g1 : ((er : Int) != 0) = true := bne_iff_ne.2 (by omega)
    clear herr hz hlen
    go_enter Try.func23, Try.ntmps23
    go_wp2_with fail
    refine M.mono ?_
    rintro e w2 ⟨a2, c2, rfl, hrow2, hk2⟩
    have HK2 := Lib.hid (HK.out.trans hk2 (by simp))
    have hB3 := HB.out.kept hk2 (by simp)
    have r0 := hB3.cell (i := 0) (u := .string ⟨#[]⟩) rfl
    have r1 := hB3.cell (i := 1) (u := .int .i64 0) rfl
    have f0 := hB3.free 0
    have f1 := hB3.free 1
    have s0 := ((hB3.set 0 (.string ⟨#[]⟩)).set 1 (.int .i64 0)).cell (i := 0) (u := .string ⟨#[]⟩) rfl
    have s1 := ((hB3.set 0 (.string ⟨#[]⟩)).set 1 (.int .i64 0)).cell (i := 1) (u := .int .i64 0) rfl
    clear hB3 hk2 hrow2 M b0 b1
    go_wp2_with fail
    refine bodyPost_ret (v := bitsV ([], 0, er)) (by simp [results, Try.results23, go_sem, bitsV, s0, s1]) rfl ?_
    exact ⟨by rw [HR.out], (HK2.out.setCell (p := ⟨w.heap.size + 1, 0, none⟩) (.inr (by simp)) _).setCell (p := ⟨w.heap.size + 1, 1, none⟩) (.inr (by simp)) _⟩
/-- What a function leaves that answers a number and an error. -/
def NumPost (R : Nat × Nat) (w : World) (e : Ending) (w' : World) : Prop := e = .returned (.tuple #[.int .i64 (R.1 : Nat), .int .i64 (R.2 : Nat)]) ∧ Kept [] w w'
set_option maxHeartbeats 1000000 in
theorem rsizeG_any (aT aP aL : Option Addr) (cT cP cL : Nat) (T : List (List Int)) (P L : List Int) (w : World) (h : PlanAt w aT aP cT cP T P) (hL : Sees w 1 aL L.length (intVals L)) (hl : L.length ≤ 10000000) :
    Calls Try.prog 25 #[planV aT T.length cT aP P.length cP, .slice aL L.length cL] w (NumPost (K.sizeGR T P L) w) := by
  have hk : Kept [] w (w.alloc (.cells #[.slice aT T.length cT, .slice aP P.length cP] 32)) := (Kept.refl [] w).alloc _
  have hA := Arr.new w [.slice aT T.length cT, .slice aP P.length cP] 32
  have M := rcodesG_any aT aP aL cT cP cL T P L _ (h.kept hk) (hL.kept0 hk) hl
  unfold planV at M ⊢
  have b0 := hA.cell (i := 0) (u := .slice aT T.length cT) rfl
  have b1 := hA.cell (i := 1) (u := .slice aP P.length cP) rfl
  have HK := Lib.hid hk
  have HA := Lib.hid hA
  have HP := Lib.hid (h.kept hk)
  obtain ⟨hlen, hmay, herr, her⟩ := codR_len T P L
  obtain ⟨⟨B, er⟩, hR⟩ : ∃ R, K.codR T P L = R := ⟨_, rfl⟩
  rw [hR] at M hlen hmay herr her
  have hlen : B.length ≤ 20 * L.length := hlen
  have her : er ≤ 110 := her
  have HRR := Lib.hid hR
  clear hA h hk hL hR
  by_cases hz : er = 0
  · subst hz
    have hm : K.mayPlan T P = true := hmay rfl
    have HR := Lib.hid (show K.sizeGR T P L = ((K.planBits T P).length + B.length, 0) by unfold K.sizeGR; rw [HRR.out]; rfl)
    have HBR := Lib.hid (show bitsRR T P = (K.planBits T P, 0) by unfold bitsRR; rw [hm]; rfl)
    have hpl := planBits_len hm
    obtain ⟨S, hS⟩ : ∃ S, K.planBits T P = S := ⟨_, rfl⟩
    rw [hS] at HR HBR hpl
    clear herr hmay hm hS
    go_enter Try.func25, Try.ntmps25
    go_wp2_with fail
    refine M.mono ?_
    rintro e w2 ⟨a2, c2, rfl, hrow2, hk2⟩
    have HK2 := Lib.hid (HK.out.trans hk2 (by simp))
    have HC := Lib.hid (rbitsG_any aT aP cT cP T P w2 (HP.out.kept hk2))
    rw [HBR.out] at HC
    have c0 := (HA.out.kept hk2 (by simp)).cell (i := 0) (u := .slice aT T.length cT) rfl
    have c1 := (HA.out.kept hk2 (by simp)).cell (i := 1) (u := .slice aP P.length cP) rfl
    unfold planV at HC
    clear hrow2 hk2 M b0 b1
    go_wp2_with fail
    refine HC.out.mono ?_
    rintro e w3 ⟨a3, c3, rfl, -, hk3⟩
    have HK3 := Lib.hid (HK2.out.trans hk3 (by simp))
    clear hk3
    go_wp2_with fail
    go_ret2
    rw [HR.out]
    exact ⟨by simp, HK3.out⟩
  · have hB0 : B = [] := herr hz
    subst hB0
    have HR := Lib.hid (show K.sizeGR T P L = (0, er) by unfold K.sizeGR; rw [HRR.out, if_neg hz])
    have g1 : ((er : Int) != 0) = true := bne_iff_ne.2 (by omega)
    clear herr hz hlen hmay
    go_enter Try.func25, Try.ntmps25
    go_wp2_with fail
    refine M.mono ?_
    rintro e w2 ⟨a2, c2, rfl, hrow2, hk2⟩
    have HK2 := Lib.hid (HK.out.trans hk2 (by simp))
    clear hk2 hrow2 M b0 b1
    go_wp2_with fail
    go_ret2
    rw [HR.out]
    exact ⟨rfl, HK2.out⟩
set_option maxHeartbeats 1000000 in
theorem gsize_any (aT aP aL : Option Addr) (cT cP cL : Nat) (T : List (List Int)) (P L : List Int) (w : World) (h : PlanAt w aT aP cT cP T P) (hL : Sees w 1 aL L.length (intVals L)) (hl : L.length ≤ 17592186043904) :
    Calls Try.prog 24 #[planV aT T.length cT aP P.length cP, .slice aL L.length cL] w (NumPost (K.sizeGR T P L) w) := by
  have hk : Kept [] w (w.alloc (.cells #[.slice aT T.length cT, .slice aP P.length cP] 32)) := (Kept.refl [] w).alloc _
  have hA := Arr.new w [.slice aT T.length cT, .slice aP P.length cP] 32
  have M := gput_any aT aP aL cT cP cL T P L _ (h.kept hk) (hL.kept0 hk) hl
  unfold planV at M ⊢
  have b0 := hA.cell (i := 0) (u := .slice aT T.length cT) rfl
  have b1 := hA.cell (i := 1) (u := .slice aP P.length cP) rfl
  have HK := Lib.hid hk
  have HA := Lib.hid hA
  have HP := Lib.hid (h.kept hk)
  obtain ⟨hlen, hmay, herr, her⟩ := codR_len T P L
  obtain ⟨⟨B, er⟩, hR⟩ : ∃ R, K.codR T P L = R := ⟨_, rfl⟩
  have HPR := Lib.hid (show K.putGR T P L = if er = 0 then (K.pack B, ((B.length : Nat) : Int), 0) else ([], 0, er) by unfold K.putGR; rw [hR])
  rw [hR] at hlen hmay herr her
  rw [HPR.out] at M
  have hlen : B.length ≤ 20 * L.length := hlen
  have her : er ≤ 110 := her
  have HRR := Lib.hid hR
  clear hA h hk hL hR HPR
  by_cases hz : er = 0
  · subst hz
    have hm : K.mayPlan T P = true := hmay rfl
    have HR := Lib.hid (show K.sizeGR T P L = ((K.planBits T P).length + B.length, 0) by unfold K.sizeGR; rw [HRR.out]; rfl)
    have HBR := Lib.hid (show K.showPR T P = (K.pack (K.planBits T P), (((K.planBits T P).length : Nat) : Int), 0) by unfold K.showPR; rw [hm]; rfl)
    have HY := Lib.hid hm
    have hpl := planBits_len hm
    obtain ⟨S, hS⟩ : ∃ S, K.planBits T P = S := ⟨_, rfl⟩
    rw [hS] at HR HBR hpl
    rw [if_pos rfl] at M
    clear herr hmay hm hS
    go_enter Try.func24, Try.ntmps24
    go_wp2_with fail
    refine M.mono ?_
    rintro e w2 ⟨rfl, hk2⟩
    unfold bitsV
    have hkB : Kept [] w (w2.alloc (.cells #[.string ⟨(K.pack B).toArray⟩, .int .i64 (B.length : Nat)] 35)) := (HK.out.trans hk2 (by simp)).alloc _
    have hkA : Kept [] (w.alloc (.cells #[.slice aT T.length cT, .slice aP P.length cP] 32)) (w2.alloc (.cells #[.string ⟨(K.pack B).toArray⟩, .int .i64 (B.length : Nat)] 35)) := hk2.alloc _
    have hB := Arr.new w2 [.string ⟨(K.pack B).toArray⟩, .int .i64 (B.length : Nat)] 35
    have HK2 := Lib.hid hkB
    have HB2 := Lib.hid hB
    have HC := Lib.hid (gshow_good aT aP cT cP T P _ (HP.out.kept hkA) HY.out)
    rw [HBR.out] at HC
    have c0 := (HA.out.kept hkA (by simp)).cell (i := 0) (u := .slice aT T.length cT) rfl
    have c1 := (HA.out.kept hkA (by simp)).cell (i := 1) (u := .slice aP P.length cP) rfl
    unfold planV at HC
    clear hk2 hkA hkB hB M b0 b1
    go_wp2_with fail
    refine HC.out.mono ?_
    rintro e w3 ⟨rfl, hk3⟩
    unfold bitsV
    have HK3 := Lib.hid (HK2.out.trans hk3 (by simp))
    have hB3 := HB2.out.kept hk3 (by simp)
    have hlt := hB3.lt
    have d1 := hB3.cell (i := 1) (u := .int .i64 (B.length : Nat)) rfl
    clear hk3 hB3 c0 c1
    go_wp2_with fail
    go_ret2
    rw [HR.out]
    exact ⟨by simp, HK3.out.alloc _⟩
  · have hB0 : B = [] := herr hz
    subst hB0
    have HR := Lib.hid (show K.sizeGR T P L = (0, er) by unfold K.sizeGR; rw [HRR.out, if_neg hz])
    have g1 : ((er : Int) != 0) = true := bne_iff_ne.2 (by omega)
    rw [if_neg hz] at M
    clear herr hz hlen hmay
    go_enter Try.func24, Try.ntmps24
    go_wp2_with fail
    refine M.mono ?_
    rintro e w2 ⟨rfl, hk2⟩
    unfold bitsV
    have HK2 := Lib.hid ((HK.out.trans hk2 (by simp)).alloc (.cells #[.string ⟨#[]⟩, .int .i64 0] 35))
    clear hk2 M b0 b1
    go_wp2_with fail
    go_ret2
    rw [HR.out]
    exact ⟨rfl, HK2.out⟩
end Go.Proofs.Ytdaenajhgbagdaa
