/-
  The walk of groups.Flat.
-/
import Derived.Test.YtdaenajhgbagdaaGrpX
import Derived.Test.YtdaenajhgbagdaaHufWalk
namespace Go.Proofs.Ytdaenajhgbagdaa
open Go.RowKit
set_option linter.unusedVariables false
set_option linter.unusedSimpArgs false

/-- What a function leaves that answers a plan and an error. -/
def PlanPost (T : List (List Int)) (P : List Int) (er : Nat) (w : World) (e : Ending) (w' : World) : Prop :=
  ∃ aT cT aP cP, e = .returned (.tuple #[planV aT T.length cT aP P.length cP, .int .i64 (er : Nat)]) ∧ PlanAt w' aT aP cT cP T P ∧ Kept [] w w' ∧ T.length ≤ cT ∧ P.length ≤ cP
theorem SeesM.nil (w : World) : SeesM w none 0 [] := ⟨[], ⟨rfl, fun j u hj => by simp at hj⟩, ⟨rfl, fun i u r h1 => by simp at h1⟩⟩
theorem PlanAt.nil (w : World) : PlanAt w none none 0 0 [] [] := ⟨SeesM.nil w, ⟨rfl, fun j u hj => by simp [intVals] at hj⟩, by simp, by simp, by simp⟩
/-- How often each symbol stands in the first i. -/
def cntTo (xs : List Int) (n i : Nat) : List Nat := (List.range n).map fun s : Nat => (xs.take i).count (s : Int)
theorem cntTo_len (xs : List Int) (n i : Nat) : (cntTo xs n i).length = n := by simp [cntTo]
theorem cntTo_zero (xs : List Int) (n : Nat) : cntTo xs n 0 = List.replicate n 0 := by
  unfold cntTo
  apply List.ext_getElem?
  intro j
  by_cases h : j < n
  · simp [List.getElem?_range h, h]
  · rw [List.getElem?_eq_none (by simp; omega), List.getElem?_eq_none (by simp; omega)]
theorem cntTo_get (xs : List Int) (n i s : Nat) (h : s < n) : (cntTo xs n i)[s]? = some ((xs.take i).count (s : Int)) := by simp [cntTo, List.getElem?_range h]
theorem cntTo_le (xs : List Int) (n i : Nat) : ∀ c ∈ cntTo xs n i, c ≤ i := by
  intro c hc
  obtain ⟨s, -, rfl⟩ := List.mem_map.1 hc
  have h1 := List.count_le_length (a := (s : Int)) (l := xs.take i)
  have h2 := List.length_take_le i xs
  omega
theorem cntTo_set (xs : List Int) (n i x : Nat) (hx : xs[i]? = some (x : Int)) : (cntTo xs n i).set x ((xs.take i).count (x : Int) + 1) = cntTo xs n (i + 1) := by
  apply List.ext_getElem?
  intro s
  rw [List.getElem?_set]
  by_cases hs : s < n
  · rw [cntTo_get _ _ _ _ hs, cntTo_get _ _ _ _ hs, List.take_add_one, hx, List.count_append]
    by_cases he : x = s
    · subst he
      rw [if_pos rfl, if_pos (by rw [cntTo_len]; exact hs)]
      simp
    · rw [if_neg he]
      have : ¬ ((x : Int) = (s : Int)) := by omega
      simp [this]
  · by_cases he : x = s
    · subst he
      rw [if_pos rfl, if_neg (by rw [cntTo_len]; omega), List.getElem?_eq_none (by rw [cntTo_len]; omega)]
    · rw [if_neg he, List.getElem?_eq_none (by rw [cntTo_len]; omega), List.getElem?_eq_none (by rw [cntTo_len]; omega)]
/-- The counts, as ints. -/
def cntI (xs : List Int) (n : Nat) : List Int := (cntTo xs n xs.length).map fun c : Nat => (c : Int)
/-- The flat plan of a list. -/
def flatPT (xs : List Int) (n : Nat) : List Int := (K.flatL (ownN (cntI xs n))).map fun c : Nat => (c : Int)
def flatPP (xs : List Int) : List Int := (List.replicate (K.groupsN xs.length) 0)
theorem cnt_may {xs : List Int} {n : Int} (h : K.mayListL xs n = true) : mayL (cntI xs n.toNat) = true ∧ 3 ≤ n ∧ n ≤ 258 ∧ 1 ≤ xs.length ∧ xs.length ≤ 1638350 ∧ ∀ s ∈ xs, 0 ≤ s ∧ s < n := by
  unfold K.mayListL at h
  rw [Bool.and_eq_true, Bool.and_eq_true, decide_eq_true_eq, decide_eq_true_eq, List.all_eq_true] at h
  obtain ⟨⟨⟨h1, h2⟩, h3, h4⟩, h5⟩ := h
  refine ⟨?_, h1, h2, h3, h4, fun s hs => by have := h5 s hs; rwa [decide_eq_true_eq] at this⟩
  have hl : (cntI xs n.toNat).length = n.toNat := by simp [cntI, cntTo_len]
  unfold mayL
  rw [hl, decide_eq_true (show 2 ≤ n.toNat by omega), decide_eq_true (show n.toNat ≤ 258 by omega), Bool.true_and, Bool.true_and, List.all_eq_true]
  intro y hy
  obtain ⟨c, hc, rfl⟩ := List.mem_map.1 hy
  have := cntTo_le _ _ _ c hc
  rw [decide_eq_true_eq]
  omega
theorem gflat_bad (a : Option Addr) (c : Nat) (xs : List Int) (n : Int) (w : World) (h : Sees w 1 a xs.length (intVals xs)) (hl : xs.length ≤ 17592186043904) (hno : K.mayListL xs n = false) :
    Calls Try.prog 31 #[.slice a xs.length c, .int .i64 n] w (PlanPost [] [] 2 w) := by
  have hk : Kept [] w (w.alloc (.cells #[.slice none 0 0, .slice none 0 0] 32)) := (Kept.refl _ _).alloc _
  have hA := Arr.new w [.slice none 0 0, .slice none 0 0] 32
  have M := gmayList_any a c xs n _ (h.kept0 hk) hl
  rw [hno] at M
  have s0 : (w.alloc (.cells #[.slice none 0 0, .slice none 0 0] 32)).cell? ⟨w.heap.size, 0, none⟩ = some (.slice none 0 0) := hA.cell (i := 0) rfl
  have s1 : (w.alloc (.cells #[.slice none 0 0, .slice none 0 0] 32)).cell? ⟨w.heap.size, 1, none⟩ = some (.slice none 0 0) := hA.cell (i := 1) rfl
  have HK := Lib.hid hk
  clear h hno hk hA
  go_enter Try.func31, Try.ntmps31
  go_wp2_with fail
  refine M.mono ?_
  rintro e w' ⟨rfl, rfl⟩
  go_wp2_with fail
  refine bodyPost_ret (v := .tuple #[planV none 0 0 none 0 0, .int .i64 2]) (by simp [results, Try.results31, go_sem, planV, s0, s1]) rfl ?_
  exact ⟨none, 0, none, 0, rfl, PlanAt.nil _, HK.out, by simp, by simp⟩

def CntI (w0 : World) (xs : List Int) (n g gr : Nat) (k : Nat) (v : Value) (wr : World) : Prop :=
  ∃ i : Nat, k = xs.length - i ∧ i ≤ xs.length ∧ v = .int .i64 (i : Nat) ∧ Hid (Row wr 3 (.slice (some ⟨g, 0, none⟩) n n) (natVals (cntTo xs n i))) ∧ Hid (Arr wr gr 32 [.slice none 0 0, .slice none 0 0]) ∧ Hid (Kept [] w0 wr)
set_option maxHeartbeats 1000000 in
theorem gflat_good (a : Option Addr) (c : Nat) (xs : List Int) (n : Nat) (w : World) (h : Sees w 1 a xs.length (intVals xs)) (hm : K.mayListL xs (n : Int) = true) :
    Calls Try.prog 31 #[.slice a xs.length c, .int .i64 (n : Int)] w (PlanPost [flatPT xs n, flatPT xs n] (flatPP xs) 0 w) := by
  obtain ⟨hmay, hn3, hn258, hx1, hx2, hall⟩ := cnt_may hm
  rw [Int.toNat_natCast] at hmay
  have hk : Kept [] w (w.alloc (.cells #[.slice none 0 0, .slice none 0 0] 32)) := (Kept.refl _ _).alloc _
  have hA := Arr.new w [.slice none 0 0, .slice none 0 0] 32
  have M := gmayList_any a c xs (n : Int) _ (h.kept0 hk) (by omega)
  rw [hm] at M
  have HS := Lib.hid (h.kept0 hk)
  obtain ⟨b, off, rfl, -⟩ := h.at (by rw [intVals_length]; omega)
  have HK := Lib.hid hk
  have HAR := Lib.hid hA
  have HALL := Lib.hid hall
  have HMAY := Lib.hid hmay
  clear h hm hk hA hall hmay
  go_enter Try.func31, Try.ntmps31
  go_wp2_with fail
  refine M.mono ?_
  rintro e w1 ⟨rfl, rfl⟩
  clear M
  obtain ⟨W, hW⟩ : ∃ W, w.alloc (.cells #[.slice none 0 0, .slice none 0 0] 32) = W := ⟨_, rfl⟩
  rw [hW] at HS HK HAR ⊢
  clear hW
  go_wp2_with ((at_make; refine wp_make1 rfl _ _ 30 rfl 3 (.int .i64 0) 8 Try.underlying30 Try.infoInt rfl .i64 .i64 _ _ n n rfl rfl rfl rfl (Nat.le_refl _) (by omega) (by simp only [maxLen]; omega) ?_; intro w2 hrow2 hk2))
  rw [show List.replicate n (Value.int .i64 0) = natVals (cntTo xs n 0) by rw [cntTo_zero]; simp [natVals]] at hrow2
  obtain ⟨g, hg⟩ : ∃ g, W.heap.size = g := ⟨_, rfl⟩
  have HG := Lib.hid (show w.heap.size ≤ g ∧ w.heap.size ≠ g from ⟨by have := HK.out.size; omega, by have := HAR.out.lt; omega⟩)
  rw [hg] at hrow2 ⊢
  have HROW := Lib.hid hrow2
  have HK2 := Lib.hid (HK.out.trans hk2 (by simp))
  have HA2 := Lib.hid (HAR.out.kept hk2 (by simp))
  have HKG := Lib.hid (hk2.mono (T := [g]) (by simp))
  have HGF := Lib.hid (show Fresh W.heap.size [g] by intro x hx; simp at hx; omega)
  clear hrow2 hk2 hg
  go_loopg [22] xs.length (fun k v wr => Hid (Kept [g] W wr) ∧ CntI w xs n g w.heap.size k v wr)
  case atStart => exact ⟨HKG, 0, by omega, by omega, rfl, HROW, HA2, HK2⟩
  case round =>
    clear HROW HA2 HK2 HKG
    obtain ⟨HKG, i, hk, hi, rfl, HR, HA, HKW⟩ := hrel
    have Hk := Lib.hid hk
    clear hk
    by_cases hlt : i < xs.length
    · have hli : (i : Int) < (xs.length : Int) := by omega
      obtain ⟨x, hx⟩ : ∃ x, xs[i]? = some x := ⟨_, List.getElem?_eq_getElem hlt⟩
      obtain ⟨hx0, hxn⟩ := HALL.out x (List.mem_of_getElem? hx)
      obtain ⟨x, rfl⟩ := Int.eq_ofNat_of_zero_le hx0
      have hxn' : x < n := by omega
      have c0 := (HS.out.keptF HKG.out HGF.out).int hx
      have c1 := HR.out.cellAt (nv_get (cntTo_get xs n i x hxn'))
      have f1 := HR.out.free x
      obtain ⟨cv, hcv⟩ : ∃ cv, (xs.take i).count (x : Int) = cv := ⟨_, rfl⟩
      have hcb : cv ≤ 1638350 := by
        have h1 := List.count_le_length (a := (x : Int)) (l := xs.take i)
        have h2 := List.length_take_le i xs
        omega
      rw [hcv] at c1
      have HSET := Lib.hid (cntTo_set xs n i x hx)
      have HCV := Lib.hid hcv
      clear hx hcv hx0
      go_wp2_with fail
      go_roundg (xs.length - (i + 1))
      case measure => have := Hk.out; omega
      case rel =>
        have h1 := HR.out.put x (.int .i64 ((cv + 1 : Nat) : Int))
        have hset := HSET.out
        rw [HCV.out] at hset
        have e : (natVals (cntTo xs n i)).set x (.int .i64 ((cv + 1 : Nat) : Int)) = natVals (cntTo xs n (i + 1)) := by
          rw [← hset]
          simp [natVals, List.map_set]
        rw [e] at h1
        have hkk : Kept [g] wr (wr.setCell ⟨g, x, none⟩ (.int .i64 ((cv + 1 : Nat) : Int))) := (Kept.refl [g] wr).setCell (p := ⟨g, x, none⟩) (by simp) _
        exact ⟨Lib.hid (HKG.out.trans hkk (fun y hy => .inl hy)), i + 1, by omega, by omega, by simp, Lib.hid h1, Lib.hid (HA.out.kept hkk (by simp; exact HG.out.2)), Lib.hid (HKW.out.trans hkk (by intro y hy; simp at hy; subst hy; exact .inr HG.out.1))⟩
    · obtain rfl : i = xs.length := by omega
      have hll : ¬ (xs.length : Int) < (xs.length : Int) := by omega
      have hcl : (cntI xs n).length = n := by simp [cntI, cntTo_len]
      have hseeC : Sees wr 1 (some ⟨g, 0, none⟩) (cntI xs n).length (intVals (cntI xs n)) := by
        rw [hcl]
        have := HR.out.seeA
        rwa [natVals_int] at this
      have M1 := wflat_any (some ⟨g, 0, none⟩) n (cntI xs n) wr hseeC (by omega)
      unfold flatR at M1
      rw [HMAY.out, if_pos rfl, hcl] at M1
      have HSC := Lib.hid hseeC
      have HCL := Lib.hid hcl
      have HFL := Lib.hid (show (K.flatL (ownN (cntI xs n))).length = n by rw [K.flatL_length, ownN_length, hcl])
      clear hseeC hcl HR Hk
      go_wp2_with fail
      refine M1.mono ?_
      rintro e w3 ⟨a3, c3, rfl, hrow3, hk3, hf3⟩
      simp only at hrow3
      have HF3 := Lib.hid (show Apart (footA a3) [w.heap.size] by
        intro y hy hm'
        simp at hm'
        have h1 := hf3 y hy
        have h2 := HA.out.lt
        omega)
      have HR3 := Lib.hid hrow3
      have HK3 := Lib.hid (HKW.out.trans hk3 (by simp))
      have HA3 := Lib.hid (HA.out.kept hk3 (by simp))
      have hseeC := HSC.out.kept0 hk3
      have M2 := wflat_any (some ⟨g, 0, none⟩) n (cntI xs n) w3 hseeC (by rw [HCL.out]; omega)
      unfold flatR at M2
      rw [HMAY.out, if_pos rfl, HCL.out] at M2
      clear hrow3 hk3 hf3 hseeC M1 HSC HA HKW
      go_wp2_with fail
      refine M2.mono ?_
      rintro e w4 ⟨a4, c4, rfl, hrow4, hk4, hf4⟩
      simp only at hrow4
      have HF4 := Lib.hid (show Apart (footA a4) [w.heap.size] by
        intro y hy hm'
        simp at hm'
        have h1 := hf4 y hy
        have h2 := HA3.out.lt
        omega)
      have HR4 := Lib.hid hrow4
      have HR34 := Lib.hid (HR3.out.kept hk4 (by simp))
      have HK4 := Lib.hid (HK3.out.trans hk4 (by simp))
      have HA4 := Lib.hid (HA3.out.kept hk4 (by simp))
      clear hrow4 hk4 hf4 M2 HR3 HK3 HA3
      rw [HFL.out] at HR4 HR34 ⊢
      have G := fun W => ggroups_any xs.length W (by omega)
      have hgn : K.groupsN xs.length ≤ 32767 := by unfold K.groupsN; omega
      have HGN := Lib.hid (show K.groupsN xs.length = K.groupsN xs.length from rfl)
      obtain ⟨m, hm⟩ : ∃ m, K.groupsN xs.length = m := ⟨_, rfl⟩
      have HM := Lib.hid hm
      rw [hm] at G hgn
      clear hm HGN
      go_wp2_with fail
      refine (G _).mono ?_
      rintro e w5 ⟨rfl, rfl⟩
      have hkB : Kept [] w4 (w4.alloc (.cells #[.slice a3 n c3, .slice a4 n c4] 30)) := (Kept.refl _ _).alloc _
      have hB := Arr.new w4 [.slice a3 n c3, .slice a4 n c4] 30
      obtain ⟨WB, hWB⟩ : ∃ WB, w4.alloc (.cells #[.slice a3 n c3, .slice a4 n c4] 30) = WB := ⟨_, rfl⟩
      rw [hWB] at hkB hB ⊢
      have HKB := Lib.hid hkB
      have HBB := Lib.hid hB
      clear hkB hB hWB G
      go_wp2_with ((at_make; refine wp_make1 rfl _ _ 30 rfl 3 (.int .i64 0) 8 Try.underlying30 Try.infoInt rfl .i64 .i64 _ _ m m rfl rfl rfl rfl (Nat.le_refl _) (by omega) (by simp only [maxLen]; omega) ?_; intro w6 hrow6 hk6; have HA6 := Lib.hid ((HA4.out.kept HKB.out (by simp)).kept hk6 (by simp)); have r0 : w6.cell? ⟨w.heap.size, 0, none⟩ = some (.slice none 0 0) := HA6.out.cell (i := 0) rfl; have r1 : w6.cell? ⟨w.heap.size, 1, none⟩ = some (.slice none 0 0) := HA6.out.cell (i := 1) rfl; have f0 := HA6.out.free 0; have f1 := HA6.out.free 1))
      obtain ⟨gp, hgp⟩ : ∃ gp, WB.heap.size = gp := ⟨_, rfl⟩
      rw [hgp] at hrow6 ⊢
      rw [show List.replicate m (Value.int .i64 0) = intVals (flatPP xs) by unfold flatPP; rw [HM.out]; simp [intVals]] at hrow6
      have hpl : (flatPP xs).length = m := by unfold flatPP; rw [HM.out]; simp
      have s0 := ((HA6.out.set 0 (.slice (some ⟨w4.heap.size, 0, none⟩) 2 2)).set 1 (.slice (some ⟨gp, 0, none⟩) m m)).cell (i := 0) (u := .slice (some ⟨w4.heap.size, 0, none⟩) 2 2) rfl
      have s1 := ((HA6.out.set 0 (.slice (some ⟨w4.heap.size, 0, none⟩) 2 2)).set 1 (.slice (some ⟨gp, 0, none⟩) m m)).cell (i := 1) (u := .slice (some ⟨gp, 0, none⟩) m m) rfl
      refine bodyPost_ret (v := .tuple #[planV (some ⟨w4.heap.size, 0, none⟩) 2 2 (some ⟨gp, 0, none⟩) m m, .int .i64 0]) (by simp [results, Try.results31, go_sem, planV, s0, s1]) rfl ?_
      have hst : Kept [w.heap.size] w6 ((w6.setCell ⟨w.heap.size, 0, none⟩ (.slice (some ⟨w4.heap.size, 0, none⟩) 2 2)).setCell ⟨w.heap.size, 1, none⟩ (.slice (some ⟨gp, 0, none⟩) m m)) := ((Kept.refl [w.heap.size] w6).setCell (p := ⟨w.heap.size, 0, none⟩) (by simp) _).setCell (p := ⟨w.heap.size, 1, none⟩) (by simp) _
      have hk46 : Kept [] w4 w6 := HKB.out.trans hk6 (by simp)
      have hfl : (flatPT xs n).length = n := by unfold flatPT; rw [List.length_map]; exact HFL.out
      have hrows : ∀ a' c', Row w4 3 (.slice a' n c') (natVals (K.flatL (ownN (cntI xs n)))) → n ≤ c' ∧ c' ≤ maxLen ∧ Sees w6 1 a' n (intVals (flatPT xs n)) := by
        intro a' c' hr
        have hln := hr.len
        obtain ⟨a2, c2, hv, h1, h2, h3, -⟩ := hr.sees
        injection hv with e1 e2 e3
        subst e3
        refine ⟨by omega, h2, ?_⟩
        have h4 := hr.seeA.kept0 hk46
        rw [natVals_int] at h4
        exact h4
      have hne : w.heap.size < w4.heap.size := HA4.out.lt
      obtain ⟨q1, q2, q3⟩ := hrows a3 c3 HR34.out
      obtain ⟨q4, q5, q6⟩ := hrows a4 c4 HR4.out
      obtain ⟨WF, hWF⟩ : ∃ WF, (w6.setCell ⟨w.heap.size, 0, none⟩ (.slice (some ⟨w4.heap.size, 0, none⟩) 2 2)).setCell ⟨w.heap.size, 1, none⟩ (.slice (some ⟨gp, 0, none⟩) m m) = WF := ⟨_, rfl⟩
      rw [hWF] at hst ⊢
      have f3 := q3.kept hst HF3.out
      have f6 := q6.kept hst HF4.out
      have hBF : Arr WF w4.heap.size 30 [.slice a3 n c3, .slice a4 n c4] := (HBB.out.kept hk6 (by simp)).kept hst (by simp; omega)
      have hPF : Sees WF 1 (some ⟨gp, 0, none⟩) m (intVals (flatPP xs)) := by
        refine hrow6.seeA.kept hst ?_
        intro y hy hm'
        simp [footA] at hy hm'
        have := HKB.out.size
        omega
      have hKF : Kept [] w WF := (HK4.out.trans hk46 (by simp)).trans hst (by simp)
      have hS : SeesM WF (some ⟨w4.heap.size, 0, none⟩) 2 ([flatPT xs n, flatPT xs n].map intVals) := by
        refine ⟨[.slice a3 n c3, .slice a4 n c4], ⟨rfl, fun j u hj => ⟨_, _, rfl, ?_⟩⟩, rfl, fun j u r hj hr => ?_⟩
        · rw [Nat.zero_add]; exact hBF.cell hj
        · have hln : (intVals (flatPT xs n)).length = n := by rw [intVals_length]; exact hfl
          match j, hj, hr with
          | 0, hj, hr =>
            simp at hj hr
            subst hj; subst hr
            exact ⟨a3, c3, by rw [hln], by rw [hln]; exact f3, by rw [hln]; exact q1, q2⟩
          | 1, hj, hr =>
            simp at hj hr
            subst hj; subst hr
            exact ⟨a4, c4, by rw [hln], by rw [hln]; exact f6, by rw [hln]; exact q4, q5⟩
          | j + 2, hj, hr => simp at hj
      refine ⟨some ⟨w4.heap.size, 0, none⟩, 2, some ⟨gp, 0, none⟩, m, by rw [hpl]; rfl, ⟨hS, by rw [hpl]; exact hPF, by simp, by rw [hpl]; omega, ?_⟩, hKF, by simp, by rw [hpl]; exact Nat.le_refl _⟩
      intro t ht
      simp at ht
      rw [ht, hfl]; omega
end Go.Proofs.Ytdaenajhgbagdaa
