/-
  The walk of groups.Put.
-/
import Derived.Test.YtdaenajhgbagdaaGrpX
import Derived.Test.YtdaenajhgbagdaaPlainG
import Derived.Test.YtdaenajhgbagdaaWriteA
import Derived.Test.YtdaenajhgbagdaaPreD
import Derived.Test.YtdaenajhgbagdaaPreH
import Derived.Test.YtdaenajhgbagdaaLibA
namespace Go.Proofs.Ytdaenajhgbagdaa
open Go.RowKit
set_option linter.unusedVariables false
set_option linter.unusedSimpArgs false

/-- What a function leaves that answers bits and an error. -/
def BitsPost2 (p : List UInt8 × Int × Nat) (w : World) (e : Ending) (w' : World) : Prop := e = .returned (bitsV p) ∧ Kept [] w w'
theorem put_bad {T : List (List Int)} {P L : List Int} {t0 : List Int} {s : Int} (h1 : K.mayPlan T P = true) (h2 : K.groupsN L.length ≤ P.length) (h3 : T.getD 0 [] = t0) (hs : s ∈ L) (hb : s < 0 ∨ (t0.length : Int) ≤ s) : K.putGR T P L = ([], 0, 60) := by
  unfold K.putGR K.codR
  rw [h1, decide_eq_true h2, h3, K.codG_none T P _ L 0 ⟨s, hs, hb⟩]
  rfl
/-- The codes of the first i tables. -/
def codRows (T : List (List Int)) (i : Nat) : List (List Value) := (List.range T.length).map fun j => if j < i then natVals (K.codesP (K.natsOf (T.getD j []))) else []
theorem codRows_length (T : List (List Int)) (i : Nat) : (codRows T i).length = T.length := by simp [codRows]
theorem codRows_get (T : List (List Int)) (i j : Nat) (h : j < T.length) : (codRows T i)[j]? = some (if j < i then natVals (K.codesP (K.natsOf (T.getD j []))) else []) := by simp [codRows, List.getElem?_range h]
theorem codRows_set (T : List (List Int)) (i : Nat) (t : List Int) (ht : T[i]? = some t) : (codRows T i).set i (natVals (K.codesP (K.natsOf t))) = codRows T (i + 1) := by
  have hi := (List.getElem?_eq_some_iff.1 ht).1
  have he : T.getD i [] = t := by rw [List.getD, ht]; rfl
  apply List.ext_getElem?
  intro j
  rw [List.getElem?_set, codRows_length]
  by_cases hj : j < T.length
  · rw [codRows_get _ _ _ hj, codRows_get _ _ _ hj]
    by_cases hij : i = j
    · subst hij
      rw [if_pos rfl, if_pos hi, if_pos (by omega), he]
    · rw [if_neg hij]
      have : (j < i + 1) ↔ (j < i) := by omega
      simp only [this]
  · rw [List.getElem?_eq_none (by rw [codRows_length]; omega), List.getElem?_eq_none (by rw [codRows_length]; omega), if_neg (by omega)]
theorem codRows_start (w : World) (g : Nat) (T : List (List Int)) : RowsG w g (List.replicate T.length (.slice none 0 0)) (codRows T 0) := by
  refine ⟨⟨by rw [codRows_length]; simp, fun i u r h1 h2 => ?_⟩, fun u hu => ?_⟩
  · rw [List.getElem?_replicate] at h1
    split at h1
    · rename_i hil
      rw [codRows_get _ _ _ hil, if_neg (by omega)] at h2
      obtain rfl := Option.some.inj h1
      obtain rfl := Option.some.inj h2
      exact ⟨none, 0, rfl, ⟨rfl, fun j u hj => by simp at hj⟩, Nat.le_refl _, Nat.zero_le _⟩
    · cases h1
  · obtain rfl := List.eq_of_mem_replicate hu
    simp [foot, Value.ownBlock]
/-- In Put's second loop: the codes of i tables are made. -/
def PutI1 (T : List (List Int)) (g : Nat) (w4 : World) (k : Nat) (v : Value) (wr : World) : Prop :=
  ∃ (i : Nat) (vs : List Value), k = T.length - i ∧ i ≤ T.length ∧ v = .int .i64 (i : Nat) ∧ Hid (Row wr 30 (.slice (some ⟨g, 0, none⟩) T.length T.length) vs) ∧ Hid (RowsG wr g vs (codRows T i)) ∧ Hid (∀ u ∈ vs, Fresh w4.heap.size (foot u)) ∧ Hid (Kept [g] w4 wr)
/-- In Put's third loop: i symbols are told. -/
def PutI2 (T : List (List Int)) (P L : List Int) (n b : Nat) (w5 : World) (k : Nat) (v : Value) (wr : World) : Prop :=
  ∃ (i : Nat) (o : Value) (B : List Bool), k = L.length - i ∧ i ≤ L.length ∧ v = .int .i64 (i : Nat) ∧ Hid (Wr wr b o B) ∧ B.length ≤ 20 * i ∧ Hid (K.codG T P n 0 (L.take i) = some B) ∧ Hid (Kept [b] w5 wr) ∧ Hid (Grew w5.heap.size [b] (b :: foot o))
theorem hKL6 {b : Nat} {o : Value} {w5 wr w6 : World} (h : Kept [b] w5 wr) (hg : Grew w5.heap.size [b] (b :: foot o)) (hk : Kept (b :: foot o) wr w6) : Kept [b] w5 w6 := h.trans hk hg
/-- In Put's first loop: the first i symbols may be. -/
def PutI0 (L : List Int) (n : Nat) (w0 : World) (k : Nat) (v : Value) (wr : World) : Prop :=
  ∃ i : Nat, k = L.length - i ∧ i ≤ L.length ∧ v = .int .i64 (i : Nat) ∧ Hid (∀ s ∈ L.take i, 0 ≤ s ∧ s < (n : Int)) ∧ w0 = wr
set_option maxRecDepth 100000 in
set_option maxHeartbeats 1000000 in
theorem gput_any (aT aP aL : Option Addr) (cT cP cL : Nat) (T : List (List Int)) (P L : List Int) (w : World) (h : PlanAt w aT aP cT cP T P) (hL : Sees w 1 aL L.length (intVals L)) (hl : L.length ≤ 17592186043904) :
    Calls Try.prog 22 #[planV aT T.length cT aP P.length cP, .slice aL L.length cL] w (BitsPost2 (K.putGR T P L) w) := by
  have hk : Kept [] w ((w.alloc (.cells #[.slice aT T.length cT, .slice aP P.length cP] 32)).alloc (.cells #[.string ⟨#[]⟩, .int .i64 0] 35)) := ((Kept.refl [] w).alloc _).alloc _
  have hA : Arr ((w.alloc (.cells #[.slice aT T.length cT, .slice aP P.length cP] 32)).alloc (.cells #[.string ⟨#[]⟩, .int .i64 0] 35)) w.heap.size 32 [.slice aT T.length cT, .slice aP P.length cP] :=
    (Arr.new w [.slice aT T.length cT, .slice aP P.length cP] 32).kept ((Kept.refl [] _).alloc _) (by simp)
  have hB : Arr ((w.alloc (.cells #[.slice aT T.length cT, .slice aP P.length cP] 32)).alloc (.cells #[.string ⟨#[]⟩, .int .i64 0] 35)) (w.heap.size + 1) 35 [.string ⟨#[]⟩, .int .i64 0] := by
    have h := Arr.new (w.alloc (.cells #[.slice aT T.length cT, .slice aP P.length cP] 32)) [.string ⟨#[]⟩, .int .i64 0] 35
    rwa [show (w.alloc (.cells #[.slice aT T.length cT, .slice aP P.length cP] 32)).heap.size = w.heap.size + 1 by simp] at h
  have p1 := h.kept hk
  have l1 := hL.kept0 hk
  unfold planV
  have b0 := hA.cell (i := 0) (u := .slice aT T.length cT) rfl
  have b1 := hA.cell (i := 1) (u := .slice aP P.length cP) rfl
  have HK := Lib.hid hk
  have HA := Lib.hid hA
  have HB := Lib.hid hB
  have HPL := Lib.hid p1
  have HL := Lib.hid l1
  clear hA hB p1 h l1 hL hk
  have hWsz : w.heap.size + 1 < ((w.alloc (.cells #[.slice aT T.length cT, .slice aP P.length cP] 32)).alloc (.cells #[.string ⟨#[]⟩, .int .i64 0] 35)).heap.size := HB.out.lt
  obtain ⟨bb, hbb⟩ : ∃ bb, K.mayPlan T P = bb := ⟨_, rfl⟩
  have HBB := Lib.hid hbb
  have hgn : K.groupsN L.length ≤ 17592186043904 := by unfold K.groupsN; omega
  obtain ⟨gn, hgg⟩ : ∃ gn, K.groupsN L.length = gn := ⟨_, rfl⟩
  have HGG := Lib.hid hgg
  have HM := Lib.hid (fun W (hW : Kept [] ((w.alloc (.cells #[.slice aT T.length cT, .slice aP P.length cP] 32)).alloc (.cells #[.string ⟨#[]⟩, .int .i64 0] 35)) W) => show Calls Try.prog 37 #[.agg #[.slice aT T.length cT, .slice aP P.length cP]] W (KBool bb W) by
    have p := HPL.out.kept hW
    rw [← hbb]; exact gmay_any aT aP cT cP T P W p.tabs p.picks p.tl p.pl p.rl)
  have HGC := Lib.hid (fun W => show Calls Try.prog 52 #[.int .i64 L.length] W (fun e w' => e = .returned (.int .i64 (gn : Nat)) ∧ W = w') by rw [← hgg]; exact ggroups_any L.length W (by omega))
  rw [hgg] at hgn
  clear hgg
  obtain ⟨W, hW⟩ : ∃ W, (w.alloc (.cells #[.slice aT T.length cT, .slice aP P.length cP] 32)).alloc (.cells #[.string ⟨#[]⟩, .int .i64 0] 35) = W := ⟨_, rfl⟩
  have HW := Lib.hid hW
  rw [hW] at b0 b1 HK HA HB HPL HL HM hWsz
  clear hW hbb
  cases bb with
  | false =>
    have HR := Lib.hid (show K.putGR T P L = ([], 0, 110) by unfold K.putGR K.codR; rw [HBB.out]; rfl)
    go_enter Try.func22, Try.ntmps22
    go_wp2_with fail
    rw [HW.out]
    refine wp_region_held_drew (S := fun w' => Kept [] W w' ∧ w'.cell? ⟨w.heap.size, 0, none⟩ = some (.slice aT T.length cT) ∧ w'.cell? ⟨w.heap.size, 1, none⟩ = some (.slice aP P.length cP)) (by kernel_rfl) ⟨(Kept.refl _ _).drew, b0, b1⟩ (fun hHeld => ?_)
    refine held_take 0 14 (.agg #[.slice aT T.length cT, .slice aP P.length cP]) (by kernel_rfl) (by kernel_rfl) (by kernel_rfl) (by kernel_rfl) (fun _ _ _ h => h) (by kernel_rfl) (by intro o ho w hSw; simp at ho; subst ho; go_simp) hHeld ?_
    simp only [Act.put, List.setIfInBounds_toArray, List.set_cons_zero, List.set_cons_succ]
    refine wpAnyH_ready (rs := [1]) (by kernel_rfl) (by simp) ?_
    refine AllReadyH.cons rfl (fun K hK => ?_) AllReadyH.nil
    go_simp
    refine (HM.out _ (Kept.refl [] W).drew).mono ?_
    rintro e w3 ⟨rfl, hk3'⟩
    have hk3 : Kept [] W w3 := (Kept.refl [] W).drew.trans hk3' (by simp)
    go_wp2_with fail
    refine hK.out _ _ ⟨hk3, hk3.cellOf b0 (by simp), hk3.cellOf b1 (by simp)⟩ (fun hHeld => ?_)
    clear hK K
    refine held_take 2 16 (.bool true) (by kernel_rfl) (by kernel_rfl) (by kernel_rfl) (by kernel_rfl) (fun _ _ _ h => h) (by kernel_rfl) (by intro o ho w hSw; simp at ho; subst ho; go_simp) hHeld ?_
    simp only [Act.put, List.setIfInBounds_toArray, List.set_cons_zero, List.set_cons_succ]
    refine held_take 3 17 (.bool true) (by kernel_rfl) (by kernel_rfl) (by kernel_rfl) (by kernel_rfl) (fun _ _ _ h => h) (by kernel_rfl) (by intro o ho w hSw; simp at ho; subst ho; go_simp) hHeld ?_
    simp only [Act.put, List.setIfInBounds_toArray, List.set_cons_zero, List.set_cons_succ]
    refine held_skip 4 18 (by kernel_rfl) (by kernel_rfl) (by kernel_rfl) (by kernel_rfl) (fun _ _ _ h => h) (by kernel_rfl) hHeld ?_
    simp only [Act.put, List.setIfInBounds_toArray, List.set_cons_zero, List.set_cons_succ]
    refine held_skip 5 19 (by kernel_rfl) (by kernel_rfl) (by kernel_rfl) (by kernel_rfl) (fun _ _ _ h => h) (by kernel_rfl) hHeld ?_
    simp only [Act.put, List.setIfInBounds_toArray, List.set_cons_zero, List.set_cons_succ]
    refine held_skip 6 20 (by kernel_rfl) (by kernel_rfl) (by kernel_rfl) (by kernel_rfl) (fun _ _ _ h => h) (by kernel_rfl) hHeld ?_
    simp only [Act.put, List.setIfInBounds_toArray, List.set_cons_zero, List.set_cons_succ]
    refine held_skip 7 21 (by kernel_rfl) (by kernel_rfl) (by kernel_rfl) (by kernel_rfl) (fun _ _ _ h => h) (by kernel_rfl) hHeld ?_
    simp only [Act.put, List.setIfInBounds_toArray, List.set_cons_zero, List.set_cons_succ]
    refine held_skip 8 22 (by kernel_rfl) (by kernel_rfl) (by kernel_rfl) (by kernel_rfl) (fun _ _ _ h => h) (by kernel_rfl) hHeld ?_
    simp only [Act.put, List.setIfInBounds_toArray, List.set_cons_zero, List.set_cons_succ]
    refine held_skip 9 23 (by kernel_rfl) (by kernel_rfl) (by kernel_rfl) (by kernel_rfl) (fun _ _ _ h => h) (by kernel_rfl) hHeld ?_
    simp only [Act.put, List.setIfInBounds_toArray, List.set_cons_zero, List.set_cons_succ]
    refine held_skip 10 24 (by kernel_rfl) (by kernel_rfl) (by kernel_rfl) (by kernel_rfl) (fun _ _ _ h => h) (by kernel_rfl) hHeld ?_
    simp only [Act.put, List.setIfInBounds_toArray, List.set_cons_zero, List.set_cons_succ]
    refine held_take 11 25 (.bool true) (by kernel_rfl) (by kernel_rfl) (by kernel_rfl) (by kernel_rfl) (fun _ _ _ h => h) (by kernel_rfl) (by intro o ho w hSw; simp at ho; subst ho; go_simp) hHeld ?_
    simp only [Act.put, List.setIfInBounds_toArray, List.set_cons_zero, List.set_cons_succ]
    refine wpAnyH_done (by kernel_rfl) ?_ _
    have HK3 := Lib.hid (HK.out.trans hk3 (by simp))
    have hB2 := HB.out.kept hk3 (by simp)
    have r0 := hB2.cell (i := 0) (u := .string ⟨#[]⟩) rfl
    have r1 := hB2.cell (i := 1) (u := .int .i64 0) rfl
    have f0 := hB2.free 0
    have f1 := hB2.free 1
    have s0 := ((hB2.set 0 (.string ⟨#[]⟩)).set 1 (.int .i64 0)).cell (i := 0) (u := .string ⟨#[]⟩) rfl
    have s1 := ((hB2.set 0 (.string ⟨#[]⟩)).set 1 (.int .i64 0)).cell (i := 1) (u := .int .i64 0) rfl
    clear hB2 hk3 b0 b1
    go_wp2_with fail
    refine bodyPost_ret (v := bitsV ([], 0, 110)) (by simp [results, Try.results22, go_sem, bitsV, s0, s1]) rfl ?_
    exact ⟨by rw [HR.out], (HK3.out.setCell (p := ⟨w.heap.size + 1, 0, none⟩) (.inr (by simp)) _).setCell (p := ⟨w.heap.size + 1, 1, none⟩) (.inr (by simp)) _⟩
  | true =>
    by_cases hmany : P.length < gn
    · have g1 : decide ((P.length : Int) < (gn : Int)) = true := by simp; omega
      have HR := Lib.hid (show K.putGR T P L = ([], 0, 110) by unfold K.putGR K.codR; rw [HBB.out, decide_eq_false (by rw [HGG.out]; omega)]; rfl)
      go_enter Try.func22, Try.ntmps22
      go_wp2_with fail
      rw [HW.out]
      go_region_held3 (fun w' => Kept [] W w' ∧ w'.cell? ⟨w.heap.size, 0, none⟩ = some (.slice aT T.length cT) ∧ w'.cell? ⟨w.heap.size, 1, none⟩ = some (.slice aP P.length cP))
        (first | exact ⟨(Kept.refl _ _).drew, b0, b1⟩ | exact ⟨hk3, hk3.cellOf b0 (by simp), hk3.cellOf b1 (by simp)⟩)
        (first | (go_at_call 37; refine (HM.out _ (Kept.refl [] W).drew).mono ?_; rintro e w3 ⟨rfl, hk3'⟩; have hk3 : Kept [] W w3 := (Kept.refl [] W).drew.trans hk3' (by simp)) | (go_at_call 52; refine (HGC.out _).mono ?_; rintro e w4 ⟨rfl, rfl⟩))
      rename_i hS
      clear hS
      have HK3 := Lib.hid (HK.out.trans hk3 (by simp))
      have hB2 := HB.out.kept hk3 (by simp)
      have r0 := hB2.cell (i := 0) (u := .string ⟨#[]⟩) rfl
      have r1 := hB2.cell (i := 1) (u := .int .i64 0) rfl
      have f0 := hB2.free 0
      have f1 := hB2.free 1
      have s0 := ((hB2.set 0 (.string ⟨#[]⟩)).set 1 (.int .i64 0)).cell (i := 0) (u := .string ⟨#[]⟩) rfl
      have s1 := ((hB2.set 0 (.string ⟨#[]⟩)).set 1 (.int .i64 0)).cell (i := 1) (u := .int .i64 0) rfl
      clear hB2 hk3 b0 b1
      go_wp2_with fail
      refine bodyPost_ret (v := bitsV ([], 0, 110)) (by simp [results, Try.results22, go_sem, bitsV, s0, s1]) rfl ?_
      exact ⟨by rw [HR.out], (HK3.out.setCell (p := ⟨w.heap.size + 1, 0, none⟩) (.inr (by simp)) _).setCell (p := ⟨w.heap.size + 1, 1, none⟩) (.inr (by simp)) _⟩
    · have g1 : ¬ P.length < gn := hmany
      obtain ⟨hT, hP, hTab, hPick⟩ := K.mayPlan_get HBB.out
      have HTAB := Lib.hid hTab
      have HPICK := Lib.hid hPick
      obtain ⟨t0, ht0⟩ : ∃ t, T[0]? = some t := ⟨_, List.getElem?_eq_getElem (by omega)⟩
      have HT0 := Lib.hid (show T.getD 0 [] = t0 by rw [List.getD, ht0]; rfl)
      have ht0l := HPL.out.rl t0 (List.mem_of_getElem? ht0)
      have ht03 := (HTAB.out t0 (List.mem_of_getElem? ht0)).2.1
      have HTI := Lib.hid ht0
      have hTpos : (0 : Int) < (T.length : Int) := by omega
      have HGN := Lib.hid (show K.groupsN L.length ≤ P.length by rw [HGG.out]; omega)
      have HLL := Lib.hid (show L.length ≤ 50 * P.length by have := HGG.out; unfold K.groupsN at this; omega)
      clear ht0 hTab hPick hmany
      go_enter Try.func22, Try.ntmps22
      go_wp2_with fail
      rw [HW.out]
      go_region_held3 (fun w' => Kept [] W w' ∧ w'.cell? ⟨w.heap.size, 0, none⟩ = some (.slice aT T.length cT) ∧ w'.cell? ⟨w.heap.size, 1, none⟩ = some (.slice aP P.length cP))
        (first | exact ⟨(Kept.refl _ _).drew, b0, b1⟩ | exact ⟨hk3, hk3.cellOf b0 (by simp), hk3.cellOf b1 (by simp)⟩)
        (first | (go_at_call 37; refine (HM.out _ (Kept.refl [] W).drew).mono ?_; rintro e w3 ⟨rfl, hk3'⟩; have hk3 : Kept [] W w3 := (Kept.refl [] W).drew.trans hk3' (by simp)) | (go_at_call 52; refine (HGC.out _).mono ?_; rintro e w4 ⟨rfl, rfl⟩))
      rename_i hS
      clear hS
      have HK3 := Lib.hid (HK.out.trans hk3 (by simp))
      have HKW3 := Lib.hid hk3
      have HA3 := Lib.hid (HA.out.kept hk3 (by simp))
      have HB3 := Lib.hid (HB.out.kept hk3 (by simp))
      have HPL3 := Lib.hid (HPL.out.kept hk3)
      have HL3 := Lib.hid (HL.out.kept0 hk3)
      clear hk3 hk3' b0 b1 HM HGC
      go_wp2_with fail
      go_loopg [29] L.length (fun k v wr => PutI0 L t0.length w3 k v wr)
      case atStart => exact ⟨0, by omega, by omega, rfl, Lib.hid (by simp), rfl⟩
      case round =>
        obtain ⟨i, hk, hi, rfl, HS, rfl⟩ := hrel
        have Hk := Lib.hid hk
        clear hk
        have c0 := HA3.out.cell (i := 0) (u := .slice aT T.length cT) rfl
        by_cases hlt : i < L.length
        · have hli : (i : Int) < (L.length : Int) := by omega
          obtain ⟨s, hs⟩ : ∃ s, L[i]? = some s := ⟨_, List.getElem?_eq_getElem hlt⟩
          obtain ⟨bL, oL, rfl, -⟩ := HL3.out.at (by rw [intVals_length]; omega)
          have d0 := HL3.out.int hs
          obtain ⟨bT, oT, ar, cr, rfl, e0, -, -⟩ := HPL3.out.tabs.int HTI.out
          rw [Nat.add_zero] at e0
          have HSI := Lib.hid hs
          clear hs
          have HE0 := Lib.hid e0
          by_cases hb0 : s < 0
          · have q1 : decide (s < 0) = true := decide_eq_true hb0
            have HR := Lib.hid (show K.putGR T P L = ([], 0, 60) from put_bad HBB.out HGN.out HT0.out (List.mem_of_getElem? HSI.out) (.inl hb0))
            have hB2 := HB3.out
            have r0 := hB2.cell (i := 0) (u := .string ⟨#[]⟩) rfl
            have r1 := hB2.cell (i := 1) (u := .int .i64 0) rfl
            have f0 := hB2.free 0
            have f1 := hB2.free 1
            have s0 := ((hB2.set 0 (.string ⟨#[]⟩)).set 1 (.int .i64 0)).cell (i := 0) (u := .string ⟨#[]⟩) rfl
            have s1 := ((hB2.set 0 (.string ⟨#[]⟩)).set 1 (.int .i64 0)).cell (i := 1) (u := .int .i64 0) rfl
            clear hB2
            go_wp2_with fail
            refine bodyPost_ret (v := bitsV ([], 0, 60)) (by simp [results, Try.results22, go_sem, bitsV, s0, s1]) rfl ?_
            exact ⟨by rw [HR.out], (HK3.out.setCell (p := ⟨w.heap.size + 1, 0, none⟩) (.inr (by simp)) _).setCell (p := ⟨w.heap.size + 1, 1, none⟩) (.inr (by simp)) _⟩
          · have q1 : decide (s < 0) = false := decide_eq_false hb0
            by_cases hb1 : (t0.length : Int) ≤ s
            · have q2 : decide ((t0.length : Int) ≤ s) = true := decide_eq_true hb1
              have HR := Lib.hid (show K.putGR T P L = ([], 0, 60) from put_bad HBB.out HGN.out HT0.out (List.mem_of_getElem? HSI.out) (.inr hb1))
              have hB2 := HB3.out
              have r0 := hB2.cell (i := 0) (u := .string ⟨#[]⟩) rfl
              have r1 := hB2.cell (i := 1) (u := .int .i64 0) rfl
              have f0 := hB2.free 0
              have f1 := hB2.free 1
              have s0 := ((hB2.set 0 (.string ⟨#[]⟩)).set 1 (.int .i64 0)).cell (i := 0) (u := .string ⟨#[]⟩) rfl
              have s1 := ((hB2.set 0 (.string ⟨#[]⟩)).set 1 (.int .i64 0)).cell (i := 1) (u := .int .i64 0) rfl
              clear hB2
              go_wp2_with fail
              refine bodyPost_ret (v := bitsV ([], 0, 60)) (by simp [results, Try.results22, go_sem, bitsV, s0, s1]) rfl ?_
              exact ⟨by rw [HR.out], (HK3.out.setCell (p := ⟨w.heap.size + 1, 0, none⟩) (.inr (by simp)) _).setCell (p := ⟨w.heap.size + 1, 1, none⟩) (.inr (by simp)) _⟩
            · have q2 : decide ((t0.length : Int) ≤ s) = false := decide_eq_false hb1
              go_wp2_with fail
              go_roundg (L.length - (i + 1))
              case measure => have := Hk.out; omega
              case rel =>
                refine ⟨i + 1, rfl, by omega, by simp, Lib.hid ?_, rfl⟩
                intro x hx
                rw [List.take_add_one, HSI.out] at hx
                rcases List.mem_append.1 hx with hx | hx
                · exact HS.out x hx
                · obtain rfl : x = s := by simpa using hx
                  omega
        · obtain rfl : i = L.length := by omega
          have hll : ¬ (L.length : Int) < (L.length : Int) := by omega
          have HIN := Lib.hid (show ∀ s ∈ L, 0 ≤ s ∧ s < (t0.length : Int) by have := HS.out; rwa [List.take_length] at this)
          clear HS Hk
          go_wp2_with fail
          refine (newWriter_new _).mono ?_
          rintro e w4 ⟨b, rfl, hw4, hk4, hf4⟩
          have HK4 := Lib.hid hk4
          have HBF := Lib.hid (show w3.heap.size ≤ b ∧ b < w4.heap.size from ⟨hf4 b (by simp), hw4.lt b (by simp)⟩)
          have HW4 := Lib.hid hw4
          have c0 := (HA3.out.kept hk4 (by simp)).cell (i := 0) (u := .slice aT T.length cT) rfl
          clear hw4 hk4 hf4
          go_wp2_with ((at_make; refine wp_make1 rfl _ _ 29 rfl 30 (.slice none 0 0) 24 Try.underlying29 Try.infoInts rfl .i64 .i64 _ _ T.length T.length rfl rfl rfl rfl (Nat.le_refl _) (by omega) (by simp only [maxLen]; omega) ?_; intro w5 hrow5 hk5))
          obtain ⟨g, hg⟩ : ∃ g, w4.heap.size = g := ⟨_, rfl⟩
          rw [hg] at hrow5 ⊢
          have HG := Lib.hid hg
          have hrow5 : Row w5 30 (.slice (some ⟨g, 0, none⟩) T.length T.length) (List.replicate T.length (.slice none 0 0)) := hrow5
          have HR5 := Lib.hid hrow5
          have HK5 := Lib.hid hk5
          clear hg hrow5 hk5 c0
          go_loopg [53] T.length (fun k v wr => PutI1 T g w4 k v wr)
          case atStart => exact ⟨0, _, by omega, by omega, rfl, HR5, Lib.hid (codRows_start w5 g T), Lib.hid (fun u hu => by obtain rfl := List.eq_of_mem_replicate hu; simp [foot, Value.ownBlock, Fresh]), Lib.hid (HK5.out.mono (by simp))⟩
          case round =>
            clear HR5 HK5
            obtain ⟨i, vs, hk, hi, rfl, HR, HRS, HF, HK⟩ := hrel
            have Hk := Lib.hid hk
            clear hk
            by_cases hlt : i < T.length
            · have hli : (i : Int) < (T.length : Int) := by omega
              obtain ⟨t, ht⟩ : ∃ t, T[i]? = some t := ⟨_, List.getElem?_eq_getElem hlt⟩
              have hkk : Kept [] w3 wr := HK4.out.trans HK.out (by intro y hy; simp at hy; subst hy; exact .inr (by rw [← HG.out]; exact HK4.out.size))
              have c0 := (HA3.out.kept hkk (by simp)).cell (i := 0) (u := .slice aT T.length cT) rfl
              obtain ⟨bT, oT, ar, cr, rfl, e0, hsr, -⟩ := (HPL3.out.kept hkk).tabs.int ht
              have htl := HPL3.out.rl t (List.mem_of_getElem? ht)
              have HTI2 := Lib.hid ht
              have HSR := Lib.hid hsr
              have HCR := Lib.hid (show K.codesR t = (K.codesP (K.natsOf t), 0) by unfold K.codesR; rw [(HTAB.out t (List.mem_of_getElem? ht)).2.2]; rfl)
              obtain ⟨old, hold⟩ : ∃ old, vs[i]? = some old := ⟨_, List.getElem?_eq_getElem (by have := HR.out.len; omega)⟩
              have HOLD := Lib.hid hold
              have HKK := Lib.hid hkk
              clear ht hsr hkk hold
              go_wp2_with fail
              refine (pcodes_any ar cr t _ HSR.out (by omega)).mono ?_
              rintro e w6 hp
              rw [HCR.out] at hp
              obtain ⟨a6, c6, rfl, hrow6, hk6, hf6⟩ := hp
              have hR6 := HR.out.kept hk6 (by simp)
              have r0 := hR6.cellAt HOLD.out
              have f0 := hR6.free i
              have HR6 := Lib.hid hR6
              have HROW6 := Lib.hid hrow6
              have HK6 := Lib.hid hk6
              have HF6 := Lib.hid hf6
              clear hrow6 hk6 hf6 hR6 c0 e0
              go_wp2_with fail
              go_roundg (T.length - (i + 1))
              case measure => have := Hk.out; omega
              case rel =>
                have hln := HROW6.out.len
                obtain ⟨a2, c2, hv, hc1, hc2, hc3, -⟩ := HROW6.out.sees
                injection hv with e1 e2 e3
                subst e3
                have hcc : (natVals (K.codesP (K.natsOf t))).length = (K.codesP (K.natsOf t)).length := natVals_length _
                have hgl : g < wr.heap.size := HR.out.lt g (by simp [foot, Value.ownBlock])
                have hga : g ∉ footA a6 := fun hm => by have := HF6.out g hm; omega
                have hset := (HRS.out.kept0 HK6.out).set i a6 c6 (natVals (K.codesP (K.natsOf t))) (by have := HROW6.out.seeA; rwa [hcc]) hc1 hc2 hga (.slice a6 (K.codesP (K.natsOf t)).length c6)
                rw [codRows_set T i t HTI2.out, hcc] at hset
                refine ⟨i + 1, _, rfl, by omega, by simp, Lib.hid (HR6.out.put i _), Lib.hid hset, Lib.hid ?_, Lib.hid ((HK.out.trans HK6.out (by simp)).trans ((Kept.refl [g] w6).setCell (p := ⟨g, i, none⟩) (by simp) _) (by simp))⟩
                intro u hu
                rcases List.mem_or_eq_of_mem_set hu with h1 | h1
                · exact HF.out u h1
                · rw [h1, foot_slice]
                  intro y hy
                  have h2 := HF6.out y hy
                  have h3 := HK.out.size
                  omega
            · obtain rfl : i = T.length := by omega
              have hll : ¬ (T.length : Int) < (T.length : Int) := by omega
              obtain ⟨w5, rfl⟩ : ∃ wo : World, wo = wr := ⟨_, rfl⟩
              have HBG := Lib.hid (show b < g by rw [← HG.out]; exact HBF.out.2)
              have HKB := Lib.hid (HK4.out.trans HK.out (by intro y hy; simp at hy; subst hy; exact .inr (by rw [← HG.out]; exact HK4.out.size)))
              have HWB := Lib.hid (HW4.out.kept HK.out (by intro x hx hm; simp [foot, Value.ownBlock] at hx hm; have := HBG.out; omega))
              go_wp2_with fail
              go_loopg [71] L.length (fun k v wr => PutI2 T P L t0.length b w5 k v wr)
              case atStart => exact ⟨0, _, [], by omega, by omega, rfl, HWB, by simp, Lib.hid (by rw [List.take_zero, K.codG]), Lib.hid (Kept.refl _ _), Lib.hid (by simp [Grew, foot, Value.ownBlock])⟩
              case round =>
                clear HWB
                obtain ⟨i, o, B, hk, hi, rfl, HWW, hBl, HC, HKL, HGR⟩ := hrel
                have Hk := Lib.hid hk
                clear hk
                by_cases hlt : i < L.length
                · have hli : (i : Int) < (L.length : Int) := by omega
                  obtain ⟨s, hs⟩ : ∃ s, L[i]? = some s := ⟨_, List.getElem?_eq_getElem hlt⟩
                  obtain ⟨hs0, hs1⟩ := HIN.out s (List.mem_of_getElem? hs)
                  obtain ⟨s, rfl⟩ := Int.eq_ofNat_of_zero_le hs0
                  have hPi : i / 50 < P.length := by have := HLL.out; omega
                  obtain ⟨x, hx⟩ : ∃ x, P[i / 50]? = some x := ⟨_, List.getElem?_eq_getElem hPi⟩
                  obtain ⟨hx0, hxT⟩ := HPICK.out x (List.mem_of_getElem? hx)
                  obtain ⟨x, rfl⟩ := Int.eq_ofNat_of_zero_le hx0
                  obtain ⟨t, ht⟩ : ∃ t, T[x]? = some t := ⟨_, List.getElem?_eq_getElem (by omega)⟩
                  obtain ⟨htl, ht3, htg⟩ := HTAB.out t (List.mem_of_getElem? ht)
                  rw [HT0.out] at htl
                  have hsl : s < t.length := by omega
                  obtain ⟨ls, hls⟩ : ∃ ls, K.natsOf t = ls := ⟨_, rfl⟩
                  have hll : ls.length = t.length := by rw [← hls, K.natsOf_length]
                  have hgd := K.goodL_in htg
                  have hfit := K.code_lt (K.natsOf t) (fun x hx => (hgd x hx).2) (K.goodL_room htg) s (by rw [K.natsOf_length]; exact hsl)
                  obtain ⟨n, hn⟩ : ∃ n, ls.getD s 0 = n := ⟨_, rfl⟩
                  obtain ⟨c, hc⟩ : ∃ c, K.codeP ls s = c := ⟨_, rfl⟩
                  rw [hls, hn, hc] at hfit
                  rw [hls] at hgd
                  have hn20 : n ≤ 20 := by
                    have hm : ls.getD s 0 ∈ ls := by rw [List.getD, List.getElem?_eq_getElem (by omega)]; exact List.getElem_mem (by omega)
                    have := (hgd _ hm).2
                    omega
                  have hts : t[s]? = some (n : Int) := by
                    have h1 : t[s]? = some t[s] := List.getElem?_eq_getElem hsl
                    have h2 := ((K.lensOk_iff t).1 (K.goodL_lens htg)).2 t[s] (List.getElem_mem hsl)
                    rw [h1, ← hn, ← hls, List.getD, K.natsOf, List.getElem?_map, h1]
                    simp; omega
                  have hsy : K.symP (K.tabAt T P i) s = K.low c n := by
                    unfold K.tabAt K.symP
                    rw [show P.getD (i / 50) 0 = (x : Int) by rw [List.getD, hx]; rfl, Int.toNat_natCast, show T.getD x [] = t by rw [List.getD, ht]; rfl, hls, hn, hc]
                  have hp20 : 2 ^ n ≤ 2 ^ 20 := Nat.pow_le_pow_right (by decide) hn20
                  have hc20 : c < 1048576 := by
                    have e : (2 : Nat) ^ 20 = 1048576 := rfl
                    omega
                  have hcw : IntKind.u64.wrap (c : Int) = (c : Int) := by rw [IntKind.wrap_u64]; omega
                  have hCW : ∀ p v, w5.cell? p = some v → p.block ≠ b → wr.cell? p = some v ∧ p.block ∉ b :: foot o := by
                    intro p v hp hb
                    refine ⟨HKL.out.cellOf hp (by simpa using hb), fun hm => ?_⟩
                    have h1 := World.block_lt_of_cell? w5 p hp
                    rcases HGR.out _ hm with h2 | h2
                    · exact hb (by simpa using h2)
                    · omega
                  have hC3 : ∀ p v, w3.cell? p = some v → wr.cell? p = some v ∧ p.block ∉ b :: foot o := by
                    intro p v hp
                    have h1 := World.block_lt_of_cell? w3 p hp
                    exact hCW p v (HKB.out.cellOf hp (by simp)) (by have := HBF.out.1; omega)
                  obtain ⟨bL, oL, rfl, -⟩ := HL3.out.at (by rw [intVals_length]; omega)
                  obtain ⟨bP, oP, rfl, -⟩ := HPL3.out.picks.at (by rw [intVals_length]; omega)
                  obtain ⟨bT, oT, ar, cr, rfl, e0, hsr, -⟩ := HPL3.out.tabs.int ht
                  obtain ⟨br, orr, rfl, -⟩ := hsr.at (by rw [intVals_length]; omega)
                  obtain ⟨d0, n0⟩ := hC3 _ _ (HL3.out.int hs)
                  obtain ⟨d1, n1⟩ := hC3 _ _ (HPL3.out.picks.int hx)
                  obtain ⟨d2, n2⟩ := hC3 _ _ (HA3.out.cell (i := 0) (u := .slice (some ⟨bT, oT, none⟩) T.length cT) rfl)
                  obtain ⟨d3, n3⟩ := hC3 _ _ (HA3.out.cell (i := 1) (u := .slice (some ⟨bP, oP, none⟩) P.length cP) rfl)
                  obtain ⟨d4, n4⟩ := hC3 _ _ e0
                  obtain ⟨d5, n5⟩ := hC3 _ _ (hsr.int hts)
                  have hxl := (List.getElem?_eq_some_iff.1 ht).1
                  have hrg := codRows_get T T.length x hxl
                  rw [if_pos hxl, show T.getD x [] = t by rw [List.getD, ht]; rfl, hls] at hrg
                  obtain ⟨u, hu⟩ : ∃ u, vs[x]? = some u := ⟨_, List.getElem?_eq_getElem (by have := HR.out.len; omega)⟩
                  obtain ⟨ac, cc, rfl, hsc, -, -⟩ := HRS.out.1.2 x u _ hu hrg
                  rw [natVals_length, K.codesP_length, hll] at hsc hu
                  obtain ⟨bc, oc, rfl, -⟩ := hsc.at (by rw [natVals_length, K.codesP_length]; omega)
                  obtain ⟨d6, n6⟩ := hCW _ _ (HR.out.cellAt hu) (by simp; have := HBG.out; omega)
                  have hcs := K.codesP_get ls s (by omega)
                  rw [hc] at hcs
                  obtain ⟨b', off', he', hcc'⟩ := hsc.2 s _ (nv_get hcs)
                  injection he' with he'
                  injection he' with he1 he2
                  subst he1; subst he2
                  obtain ⟨d7, n7⟩ := hCW _ _ hcc' (by simp; have h1 := HF.out _ (List.mem_of_getElem? hu) bc (by simp [foot, Value.ownBlock]); have := HBF.out.2; omega)
                  obtain ⟨j, hj⟩ : ∃ j, i / 50 = j := ⟨_, rfl⟩
                  rw [hj] at d1 n1 hPi
                  have hje : (i : Int) / 50 = (j : Int) := by omega
                  have hjP : (j : Int) < (P.length : Int) := by omega
                  have hj0 : (0 : Int) ≤ (j : Int) := by omega
                  have hxTl : (x : Int) < (T.length : Int) := by omega
                  have hsli : (s : Int) < (t.length : Int) := by omega
                  have HWR := Lib.hid HWW.out
                  have HBL := Lib.hid (show B.length ≤ 1000000000000 by omega)
                  have HFIT := Lib.hid hfit
                  have HSY := Lib.hid hsy
                  have HSL := Lib.hid hs
                  have HN := Lib.hid (show (⟨g, x, none⟩ : Addr).block ∉ b :: foot o ∧ bc ∉ b :: foot o ∧ w.heap.size ∉ b :: foot o ∧ bT ∉ b :: foot o ∧ br ∉ b :: foot o from ⟨n6, n7, n2, n4, n5⟩)
                  clear hCW hC3 hj hx ht hs hls hn hc hgd hts hu hcs hcc' hsc hrg hsr e0 htl htg hfit hsy n0 n1 n2 n3 n4 n5 n6 n7 hp20
                  go_wp2_with fail
                  go_region_held3 (fun w' => w'.cell? ⟨g, x, none⟩ = some (.slice (some ⟨bc, oc, none⟩) t.length cc) ∧ w'.cell? ⟨bc, oc + s, none⟩ = some (.int .i64 (c : Int)) ∧ w'.cell? ⟨w.heap.size, 0, none⟩ = some (.slice (some ⟨bT, oT, none⟩) T.length cT) ∧ w'.cell? ⟨bT, oT + x, none⟩ = some (.slice (some ⟨br, orr, none⟩) t.length cr) ∧ w'.cell? ⟨br, orr + s, none⟩ = some (.int .i64 (n : Int)))
                    (first | exact ⟨d6, d7, d2, d4, d5⟩ | exact ⟨hk6.cellOf d6 HN.out.1, hk6.cellOf d7 HN.out.2.1, hk6.cellOf d2 HN.out.2.2.1, hk6.cellOf d4 HN.out.2.2.2.1, hk6.cellOf d5 HN.out.2.2.2.2⟩)
                    (first | (go_at_call 39; refine (put_put b c n _ _ _ (by omega) (by omega) (by omega) (by simpa using HFIT.out) HBL.out (by exact HWR.out)).mono ?_; rintro e w6 ⟨rfl, o6, hw6, hk6, hg6⟩))
                  rename_i hS
                  clear hS
                  have hk6 : Kept (b :: foot o) wr w6 := (Kept.refl (b :: foot o) wr).drew.trans hk6 (fun x hx => .inl hx)
                  have HW6 := Lib.hid (show Wr w6 b o6 (B ++ K.symP (K.tabAt T P i) s) by rw [HSY.out]; simpa using hw6)
                  have HK6 := Lib.hid (hKL6 HKL.out HGR.out hk6)
                  have HG6 := Lib.hid (HGR.out.trans hg6 HKL.out.size)
                  clear hw6 hk6 hg6 d2 d4 d5 d6 d7 d0 d1 d3
                  go_wp2_with fail
                  go_roundg (L.length - (i + 1))
                  case measure => have := Hk.out; omega
                  case rel =>
                    refine ⟨i + 1, o6, _, rfl, by omega, by simp, HW6, ?_, Lib.hid ?_, HK6, HG6⟩
                    · rw [List.length_append, HSY.out, K.low_length]; omega
                    · rw [List.take_add_one, HSL.out]
                      have h := K.codG_snoc T P t0.length (s : Int) ⟨by omega, by omega⟩ (L.take i) 0 B HC.out
                      rw [List.length_take, Nat.min_eq_left (by omega), Nat.zero_add] at h
                      exact h
                · obtain rfl : i = L.length := by omega
                  have hll : ¬ (L.length : Int) < (L.length : Int) := by omega
                  have HCB := Lib.hid (show K.codG T P t0.length 0 L = some B by have := HC.out; rwa [List.take_length] at this)
                  have HR := Lib.hid (show K.putGR T P L = (K.pack B, ((B.length : Nat) : Int), 0) by
                    unfold K.putGR K.codR
                    rw [HBB.out, decide_eq_true HGN.out, HT0.out, HCB.out]
                    rfl)
                  have HW2 := HWW
                  clear HC HGR
                  go_wp2_with fail
                  refine (text_ok _ _ _ _ HW2.out).mono ?_
                  rintro e w7 ⟨rfl, rfl⟩
                  go_wp2_with fail
                  refine (len_ok _ _ _ _ HW2.out).mono ?_
                  rintro e w7 ⟨rfl, rfl⟩
                  have hkk : Kept [] w3 wr := HKB.out.trans HKL.out (by intro y hy; simp at hy; subst hy; exact .inr HBF.out.1)
                  have hB2 := HB3.out.kept hkk (by simp)
                  have r0 := hB2.cell (i := 0) (u := .string ⟨#[]⟩) rfl
                  have r1 := hB2.cell (i := 1) (u := .int .i64 0) rfl
                  have f0 := hB2.free 0
                  have f1 := hB2.free 1
                  have s0 := ((hB2.set 0 (.string ⟨(K.pack B).toArray⟩)).set 1 (.int .i64 (B.length : Nat))).cell (i := 0) (u := .string ⟨(K.pack B).toArray⟩) rfl
                  have s1 := ((hB2.set 0 (.string ⟨(K.pack B).toArray⟩)).set 1 (.int .i64 (B.length : Nat))).cell (i := 1) (u := .int .i64 (B.length : Nat)) rfl
                  have HKE := Lib.hid (HK3.out.trans hkk (by simp))
                  clear hB2 hkk
                  go_wp2_with fail
                  refine bodyPost_ret (v := bitsV (K.pack B, ((B.length : Nat) : Int), 0)) (by simp [results, Try.results22, go_sem, bitsV, s0, s1]) rfl ?_
                  exact ⟨by rw [HR.out], (HKE.out.setCell (p := ⟨w.heap.size + 1, 0, none⟩) (.inr (by simp)) _).setCell (p := ⟨w.heap.size + 1, 1, none⟩) (.inr (by simp)) _⟩
end Go.Proofs.Ytdaenajhgbagdaa
