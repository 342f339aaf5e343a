/-
  The walk of layer 11's reference Show.
-/
import Derived.Test.YtdaenajhgbagdaaRefG2
namespace Go.Proofs.Ytdaenajhgbagdaa
open Go.RowKit
set_option linter.unusedVariables false
set_option linter.unusedSimpArgs false

theorem rbitsG_any (aT aP : Option Addr) (cT cP : Nat) (T : List (List Int)) (P : List Int) (w : World) (h : PlanAt w aT aP cT cP T P) :
    Calls Try.prog 46 #[planV aT T.length cT aP P.length cP] w (BoolsPost (bitsRR T P) w) := by
  rcases Bool.eq_false_or_eq_true (K.mayPlan T P) with hm | hm
  · exact rbits_good aT aP cT cP T P w h hm
  · exact rbits_bad aT aP cT cP T P w h hm
theorem flat_len (l : List (List Int)) (h : ∀ t ∈ l, K.goodL t = true) : (l.flatMap K.showBits).length ≤ 20000 * l.length := by
  induction l with
  | nil => simp
  | cons t l ih =>
    have h1 := ih fun u hu => h u (by simp [hu])
    have h2 := K.showBits_len t (K.goodL_lens (h t (by simp)))
    rw [List.flatMap_cons, List.length_append, List.length_cons]
    omega
theorem planBits_len {T : List (List Int)} {P : List Int} (h : K.mayPlan T P = true) : (K.planBits T P).length ≤ 400000 := by
  obtain ⟨h1, -, h3, -⟩ := K.mayPlan_get h
  have a := K.headP_length h
  have b := flat_len T fun t ht => (h3 t ht).2.2
  unfold K.planBits
  rw [List.length_append]
  omega
theorem rshowG_any (aT aP : Option Addr) (cT cP : Nat) (T : List (List Int)) (P : List Int) (w : World) (h : PlanAt w aT aP cT cP T P) :
    Calls Try.prog 17 #[planV aT T.length cT aP P.length cP] w (BitsPost (K.showPR T P) w) := by
  have hk : Kept [] w ((w.alloc (.cells #[.slice aT T.length cT, .slice aP P.length cP] 32)).alloc (.cells #[.string ⟨#[]⟩, .int .i64 0] 35)) := ((Kept.refl [] w).alloc _).alloc _
  have hA : Arr ((w.alloc (.cells #[.slice aT T.length cT, .slice aP P.length cP] 32)).alloc (.cells #[.string ⟨#[]⟩, .int .i64 0] 35)) w.heap.size 32 [.slice aT T.length cT, .slice aP P.length cP] :=
    (Arr.new w [.slice aT T.length cT, .slice aP P.length cP] 32).kept ((Kept.refl [] _).alloc _) (by simp)
  have hB : Arr ((w.alloc (.cells #[.slice aT T.length cT, .slice aP P.length cP] 32)).alloc (.cells #[.string ⟨#[]⟩, .int .i64 0] 35)) (w.heap.size + 1) 35 [.string ⟨#[]⟩, .int .i64 0] := by
    have h := Arr.new (w.alloc (.cells #[.slice aT T.length cT, .slice aP P.length cP] 32)) [.string ⟨#[]⟩, .int .i64 0] 35
    rwa [show (w.alloc (.cells #[.slice aT T.length cT, .slice aP P.length cP] 32)).heap.size = w.heap.size + 1 by simp] at h
  have M := rbitsG_any aT aP cT cP T P _ (h.kept hk)
  unfold planV at M ⊢
  have b0 := hA.cell (i := 0) (u := .slice aT T.length cT) rfl
  have b1 := hA.cell (i := 1) (u := .slice aP P.length cP) rfl
  have HK := Lib.hid hk
  have HB := Lib.hid hB
  clear hA hB h hk
  rcases Bool.eq_false_or_eq_true (K.mayPlan T P) with hm | hm
  · have HR := Lib.hid (show K.showPR T P = (K.pack (K.planBits T P), (((K.planBits T P).length : Nat) : Int), 0) by unfold K.showPR; rw [hm]; rfl)
    rw [show bitsRR T P = (K.planBits T P, 0) by unfold bitsRR; rw [hm]; rfl] at M
    have hlen := planBits_len hm
    obtain ⟨B, hBB⟩ : ∃ B, K.planBits T P = B := ⟨_, rfl⟩
    rw [hBB] at HR M hlen
    clear hBB hm
    go_enter Try.func17, Try.ntmps17
    go_wp2_with fail
    refine M.mono ?_
    rintro e w2 ⟨a2, c2, rfl, hrow2, hk2⟩
    have HK2 := Lib.hid (HK.out.trans hk2 (by simp))
    have HB2 := Lib.hid (HB.out.kept hk2 (by simp))
    have hs2 := hrow2.seeA
    clear hrow2 hk2 M b0 b1
    go_wp2_with fail
    refine (refText_ok a2 c2 B w2 (by omega) hs2).mono ?_
    rintro e w3 ⟨rfl, hk3⟩
    have hB3 := HB2.out.kept hk3 (by simp)
    have HK3 := Lib.hid (HK2.out.trans hk3 (by simp))
    have r0 := hB3.cell (i := 0) (u := .string ⟨#[]⟩) rfl
    have r1 := hB3.cell (i := 1) (u := .int .i64 0) rfl
    have f0 := hB3.free 0
    have f1 := hB3.free 1
    have s0 := ((hB3.set 0 (.string ⟨(K.pack B).toArray⟩)).set 1 (.int .i64 (B.length : Nat))).cell (i := 0) (u := .string ⟨(K.pack B).toArray⟩) rfl
    have s1 := ((hB3.set 0 (.string ⟨(K.pack B).toArray⟩)).set 1 (.int .i64 (B.length : Nat))).cell (i := 1) (u := .int .i64 (B.length : Nat)) rfl
    clear hB3 hk3 hs2
    go_wp2_with fail
    refine bodyPost_ret (v := bitsV (K.pack B, ((B.length : Nat) : Int), 0)) (by simp [results, Try.results17, go_sem, bitsV, s0, s1]) rfl ?_
    exact ⟨by rw [HR.out], (HK3.out.setCell (p := ⟨w.heap.size + 1, 0, none⟩) (.inr (by simp)) _).setCell (p := ⟨w.heap.size + 1, 1, none⟩) (.inr (by simp)) _⟩
  · have HR := Lib.hid (show K.showPR T P = ([], 0, 110) by unfold K.showPR; rw [hm]; rfl)
    rw [show bitsRR T P = ([], 110) by unfold bitsRR; rw [hm]; rfl] at M
    clear hm
    go_enter Try.func17, Try.ntmps17
    go_wp2_with fail
    refine M.mono ?_
    rintro e w2 ⟨a2, c2, rfl, hrow2, hk2⟩
    have HK2 := Lib.hid (HK.out.trans hk2 (by simp))
    have hB3 := HB.out.kept hk2 (by simp)
    have r0 := hB3.cell (i := 0) (u := .string ⟨#[]⟩) rfl
    have r1 := hB3.cell (i := 1) (u := .int .i64 0) rfl
    have f0 := hB3.free 0
    have f1 := hB3.free 1
    have s0 := ((hB3.set 0 (.string ⟨#[]⟩)).set 1 (.int .i64 0)).cell (i := 0) (u := .string ⟨#[]⟩) rfl
    have s1 := ((hB3.set 0 (.string ⟨#[]⟩)).set 1 (.int .i64 0)).cell (i := 1) (u := .int .i64 0) rfl
    clear hB3 hk2 hrow2 M b0 b1
    go_wp2_with fail
    refine bodyPost_ret (v := bitsV ([], 0, 110)) (by simp [results, Try.results17, go_sem, bitsV, s0, s1]) rfl ?_
    exact ⟨by rw [HR.out], (HK2.out.setCell (p := ⟨w.heap.size + 1, 0, none⟩) (.inr (by simp)) _).setCell (p := ⟨w.heap.size + 1, 1, none⟩) (.inr (by simp)) _⟩
end Go.Proofs.Ytdaenajhgbagdaa
