/-
  The walks of prefix's longest, made and codes. The walk of prefix's made. The walks of prefix's codes and Codes.
-/
import Derived.Test.YtdaenajhgbagdaaLenX
import Derived.Test.YtdaenajhgbagdaaWriteA
import Derived.Test.YtdaenajhgbagdaaPlainA
import Derived.Test.YtdaenajhgbagdaaSymX
import Derived.Deep.RegionHeld3
import Derived.Deep.WholeRow
import Derived.BigQuiet
import Derived.Test.YtdaenajhgbagdaaLibA
namespace Go.Proofs.Ytdaenajhgbagdaa
open Go.RowKit
set_option linter.unusedVariables false
set_option linter.unusedSimpArgs false

/-! ### The greatest -/
def maxL (xs : List Int) : Int := xs.foldl max 0
theorem maxL_snoc (xs : List Int) (x : Int) : maxL (xs ++ [x]) = max (maxL xs) x := by simp [maxL, List.foldl_append]
theorem maxL_ge (xs : List Int) : 0 ≤ maxL xs ∧ ∀ x ∈ xs, x ≤ maxL xs := by
  suffices h : ∀ n (xs : List Int), xs.length = n → 0 ≤ maxL xs ∧ ∀ x ∈ xs, x ≤ maxL xs from h _ xs rfl
  intro n
  induction n with
  | zero => intro xs h; rw [List.eq_nil_of_length_eq_zero h]; simp [maxL]
  | succ n ih =>
    intro xs h
    have hne : xs ≠ [] := by intro h2; simp [h2] at h
    have e := List.dropLast_concat_getLast hne
    obtain ⟨h1, h2⟩ := ih xs.dropLast (by simp [h])
    rw [← e, maxL_snoc]
    refine ⟨by omega, fun x hx => ?_⟩
    rcases List.mem_append.1 hx with hx | hx
    · have := h2 x hx; omega
    · have : x = xs.getLast hne := by simpa using hx
      omega
theorem maxL_le (xs : List Int) (b : Int) (hb : 0 ≤ b) (h : ∀ x ∈ xs, x ≤ b) : maxL xs ≤ b := by
  suffices this : ∀ n (xs : List Int), xs.length = n → (∀ x ∈ xs, x ≤ b) → maxL xs ≤ b from this _ xs rfl h
  intro n
  induction n with
  | zero => intro xs h _; rw [List.eq_nil_of_length_eq_zero h]; simpa [maxL] using hb
  | succ n ih =>
    intro xs h hx
    have hne : xs ≠ [] := by intro h2; simp [h2] at h
    have e := List.dropLast_concat_getLast hne
    have h1 := ih xs.dropLast (by simp [h]) (fun x hm => hx x (List.dropLast_subset _ hm))
    have h2 := hx _ (List.getLast_mem hne)
    rw [← e, maxL_snoc]
    omega
/-- In longest's loop: i are looked at. -/
def LongI (w0 : World) (xs : List Int) (k : Nat) (n c : Value) (w : World) : Prop :=
  ∃ i, i ≤ xs.length ∧ k = xs.length - i ∧ c = .int .i64 (i : Nat) ∧ n = .int .i64 (maxL (xs.take i)) ∧ w0 = w
theorem longest_any (a : Option Addr) (cap : Nat) (xs : List Int) (w : World) (h : Sees w 1 a xs.length (intVals xs)) (hlen : xs.length ≤ 140737488351232) :
    Calls Try.prog 101 #[.agg #[.slice a xs.length cap]] w fun e w' => e = .returned (.int .i64 (maxL xs)) ∧ Kept [] w w' := by
  have HS := Lib.hid h
  clear h
  go_enter Try.func101, Try.ntmps101
  go_wp2_with fail
  have hk0 : Kept [] w (w.alloc (.cells #[.slice a xs.length cap] 133)) := (Kept.refl _ _).alloc _
  generalize w.alloc (.cells #[.slice a xs.length cap] 133) = W0 at hk0 ⊢
  have HK := Lib.hid hk0
  clear hk0
  go_loopg [3, 9] xs.length (fun k n c wr => LongI W0 xs k n c wr)
  case atStart => exact ⟨0, by omega, by omega, rfl, rfl, rfl⟩
  case round =>
    obtain ⟨i, hi, hk, rfl, rfl, rfl⟩ := hrel
    have Hk := Lib.hid hk
    clear hk
    by_cases hlt : i < xs.length
    · have hli : (i : Int) < (xs.length : Int) := by omega
      obtain ⟨x, hx⟩ : ∃ x, xs[i]? = some x := ⟨_, List.getElem?_eq_getElem hlt⟩
      obtain ⟨b0, off, rfl, -⟩ := HS.out.at (by rw [intVals_length]; omega)
      have c0 := (HS.out.kept0 HK.out).int hx
      have ex : xs.take (i + 1) = xs.take i ++ [x] := by rw [List.take_add_one, hx]; rfl
      have hms := maxL_snoc (xs.take i) x
      rw [← ex] at hms
      have HM := Lib.hid hms
      clear ex hx hms
      generalize maxL (xs.take i) = M at HM ⊢
      go_wp2_with fail
      all_goals
        go_roundg (xs.length - (i + 1))
        case measure => have := Hk.out; omega
        case rel => exact ⟨i + 1, by omega, rfl, by go_num, by rw [HM.out]; congr 1; omega, rfl⟩
    · obtain rfl : i = xs.length := by omega
      have hR := List.take_length (l := xs)
      have HR := Lib.hid hR
      clear hR
      go_wp2_with fail
      go_ret
      exact ⟨by rw [HR.out]; rfl, HK.out⟩

/-! ### The table -/
/-- A table's cells. -/
def tabVals (ov dv : Value) (F B C : List Nat) : List Value := ov :: dv :: (natVals F ++ (natVals B ++ natVals C))
def zTab : List Value := .slice none 0 0 :: List.replicate 66 (.int .i64 0)
theorem Try.zTable (w : World) : (zeroValue 136).run Try.prog w = .ok (.agg (Value.slice none 0 0 :: zTab).toArray) w :=
  (zero_of_info (P := Try.prog) (t := 136) (v := .agg (Value.slice none 0 0 :: zTab).toArray) (n := 68) (by kernel_rfl)).1 w
def z22 : List Nat := List.replicate 22 0
theorem tab_new (ov : Value) : ov :: zTab = tabVals ov (.slice none 0 0) z22 z22 z22 := rfl
theorem tab_len (ov dv : Value) (F B C : List Nat) (hF : F.length = 22) (hB : B.length = 22) (hC : C.length = 22) : (tabVals ov dv F B C).length = 68 := by
  simp [tabVals, natVals_length, hF, hB, hC]
theorem nat_get (l : List Nat) (i x : Nat) (h : l[i]? = some x) : (natVals l)[i]? = some (.int .i64 (x : Int)) := by simp [natVals, h]
theorem nat_set (l : List Nat) (i x : Nat) : (natVals l).set i (.int .i64 (x : Int)) = natVals (l.set i x) := by simp [natVals, List.map_set]
section
variable {w : World} {g : Nat} {t : TypeId} {ov dv : Value} {F B C : List Nat}
theorem Tab.of (h : Arr w g t (tabVals ov dv F B C)) : w.cell? ⟨g, 0, none⟩ = some ov := h.cell rfl
theorem Tab.order (h : Arr w g t (tabVals ov dv F B C)) : w.cell? ⟨g, 1, none⟩ = some dv := h.cell rfl
theorem Tab.first (h : Arr w g t (tabVals ov dv F B C)) (i x : Nat) (hi : F[i]? = some x) : w.cell? ⟨g, 2 + i, none⟩ = some (.int .i64 (x : Int)) := by
  refine h.cell ?_
  rw [show 2 + i = i + 1 + 1 by omega, tabVals, List.getElem?_cons_succ, List.getElem?_cons_succ, List.getElem?_append_left (by rw [natVals_length]; exact (List.getElem?_eq_some_iff.1 hi).1)]
  exact nat_get F i x hi
theorem Tab.begin (h : Arr w g t (tabVals ov dv F B C)) (hF : F.length = 22) (i x : Nat) (hi : B[i]? = some x) : w.cell? ⟨g, 24 + i, none⟩ = some (.int .i64 (x : Int)) := by
  refine h.cell ?_
  rw [show 24 + i = 22 + i + 1 + 1 by omega, tabVals, List.getElem?_cons_succ, List.getElem?_cons_succ, List.getElem?_append_right (by rw [natVals_length]; omega), natVals_length, hF,
    show 22 + i - 22 = i by omega, List.getElem?_append_left (by rw [natVals_length]; exact (List.getElem?_eq_some_iff.1 hi).1)]
  exact nat_get B i x hi
theorem Tab.count (h : Arr w g t (tabVals ov dv F B C)) (hF : F.length = 22) (hB : B.length = 22) (i x : Nat) (hi : C[i]? = some x) : w.cell? ⟨g, 46 + i, none⟩ = some (.int .i64 (x : Int)) := by
  refine h.cell ?_
  rw [show 46 + i = 44 + i + 1 + 1 by omega, tabVals, List.getElem?_cons_succ, List.getElem?_cons_succ, List.getElem?_append_right (by rw [natVals_length]; omega), natVals_length, hF,
    List.getElem?_append_right (by rw [natVals_length]; omega), natVals_length, hB, show 44 + i - 22 - 22 = i by omega]
  exact nat_get C i x hi
theorem Tab.setOrder (h : Arr w g t (tabVals ov dv F B C)) (v : Value) : Arr (w.setCell ⟨g, 1, none⟩ v) g t (tabVals ov v F B C) := h.set 1 v
theorem Tab.setFirst (h : Arr w g t (tabVals ov dv F B C)) (i x : Nat) (hi : i < F.length) : Arr (w.setCell ⟨g, 2 + i, none⟩ (.int .i64 (x : Int))) g t (tabVals ov dv (F.set i x) B C) := by
  have := h.set (2 + i) (.int .i64 (x : Int))
  rw [show 2 + i = i + 1 + 1 by omega, tabVals, List.set_cons_succ, List.set_cons_succ, List.set_append_left _ _ (by rw [natVals_length]; exact hi), nat_set] at this
  rw [show 2 + i = i + 1 + 1 by omega]
  exact this
theorem Tab.setBegin (h : Arr w g t (tabVals ov dv F B C)) (hF : F.length = 22) (i x : Nat) (hi : i < B.length) : Arr (w.setCell ⟨g, 24 + i, none⟩ (.int .i64 (x : Int))) g t (tabVals ov dv F (B.set i x) C) := by
  have := h.set (24 + i) (.int .i64 (x : Int))
  rw [show 24 + i = 22 + i + 1 + 1 by omega, tabVals, List.set_cons_succ, List.set_cons_succ, List.set_append_right _ _ (by rw [natVals_length]; omega), natVals_length, hF,
    show 22 + i - 22 = i by omega, List.set_append_left _ _ (by rw [natVals_length]; exact hi), nat_set] at this
  rw [show 24 + i = 22 + i + 1 + 1 by omega]
  exact this
theorem Tab.setCount (h : Arr w g t (tabVals ov dv F B C)) (hF : F.length = 22) (hB : B.length = 22) (i x : Nat) : Arr (w.setCell ⟨g, 46 + i, none⟩ (.int .i64 (x : Int))) g t (tabVals ov dv F B (C.set i x)) := by
  have := h.set (46 + i) (.int .i64 (x : Int))
  rw [show 46 + i = 44 + i + 1 + 1 by omega, tabVals, List.set_cons_succ, List.set_cons_succ, List.set_append_right _ _ (by rw [natVals_length]; omega), natVals_length, hF,
    List.set_append_right _ _ (by rw [natVals_length]; omega), natVals_length, hB, show 44 + i - 22 - 22 = i by omega, nat_set] at this
  rw [show 46 + i = 44 + i + 1 + 1 by omega]
  exact this
end
end Go.Proofs.Ytdaenajhgbagdaa
namespace Go.Proofs.Ytdaenajhgbagdaa
open Go.RowKit
set_option linter.unusedVariables false
set_option linter.unusedSimpArgs false

/-- What stands in a table's rows ahead of length n. -/
def tabUpto (f : Nat → Nat) (n : Nat) : List Nat := (List.range 22).map fun j => if 1 ≤ j ∧ j < n then f j else 0
theorem tabUpto_length (f : Nat → Nat) (n : Nat) : (tabUpto f n).length = 22 := by simp [tabUpto]
theorem tabUpto_get (f : Nat → Nat) (n j : Nat) (hj : j < 22) : (tabUpto f n)[j]? = some (if 1 ≤ j ∧ j < n then f j else 0) := by simp [tabUpto, List.getElem?_range hj]
theorem tabUpto_one (f : Nat → Nat) : tabUpto f 1 = z22 := by
  apply List.ext_getElem?
  intro j
  by_cases hj : j < 22
  · rw [tabUpto_get f 1 j hj, if_neg (by omega)]
    unfold z22
    rw [List.getElem?_replicate, if_pos hj]
  · rw [List.getElem?_eq_none (by rw [tabUpto_length]; omega), List.getElem?_eq_none (by simp [z22]; omega)]
theorem tabUpto_set (f : Nat → Nat) (n : Nat) (h1 : 1 ≤ n) (hn : n < 22) : (tabUpto f n).set n (f n) = tabUpto f (n + 1) := by
  apply List.ext_getElem?
  intro j
  rw [List.getElem?_set]
  by_cases hj : j < 22
  · rw [tabUpto_get f _ j hj, tabUpto_get f _ j hj, tabUpto_length]
    by_cases hnj : n = j
    · subst hnj
      rw [if_pos rfl, if_pos hn, if_pos (by omega)]
    · rw [if_neg hnj]
      congr 1
      by_cases hc : 1 ≤ j ∧ j < n
      · rw [if_pos hc, if_pos (by omega)]
      · rw [if_neg hc, if_neg (by omega)]
  · rw [List.getElem?_eq_none (by rw [tabUpto_length]; omega), List.getElem?_eq_none (by rw [tabUpto_length]; omega), if_neg (by omega)]
def tabF (ls : List Nat) (n : Nat) : List Nat := tabUpto (K.firstP ls) n
def tabB (ls : List Nat) (n : Nat) : List Nat := tabUpto (fun j => (K.orderTo ls j).length) n
def tabC (ls : List Nat) (n : Nat) : List Nat := tabUpto (fun j => ls.count j) n

/-- A table of lengths at block g: its slices of order and of lengths, all lengths below N laid. -/
def Tab (w : World) (g : Nat) (a : Option Addr) (L cap : Nat) (ls : List Nat) (N : Nat) (dv : Value) : Prop :=
  Arr w g 136 (tabVals (.slice a L cap) dv (tabF ls N) (tabB ls N) (tabC ls N)) ∧ Row w 3 dv (natVals (K.orderTo ls N)) ∧ g ∉ foot dv
theorem Tab.kept {S : List Nat} {w w' : World} {g : Nat} {a : Option Addr} {L cap : Nat} {ls : List Nat} {N : Nat} {dv : Value} (h : Tab w g a L cap ls N dv) (hk : Kept S w w') (ha : Apart (g :: foot dv) S) : Tab w' g a L cap ls N dv :=
  ⟨h.1.kept hk (ha g (by simp)), h.2.1.kept hk (fun x hx => ha x (by simp [hx])), h.2.2⟩
theorem Tab.lt {w : World} {g : Nat} {a : Option Addr} {L cap : Nat} {ls : List Nat} {N : Nat} {dv : Value} (h : Tab w g a L cap ls N dv) : ∀ x ∈ g :: foot dv, x < w.heap.size := by
  intro x hx
  rcases List.mem_cons.1 hx with rfl | hx
  · exact h.1.lt
  · exact h.2.1.lt x hx
/-- In made's loop: lengths below n are laid. -/
def MadeI (w0 : World) (g : Nat) (a : Option Addr) (L cap : Nat) (ls : List Nat) (M : Nat) (k : Nat) (cv nv : Value) (w : World) : Prop :=
  ∃ n dv, 1 ≤ n ∧ n ≤ M + 1 ∧ k = M + 1 - n ∧ nv = .int .i64 (n : Nat) ∧ cv = .int .i64 (K.firstP ls (n - 1) + ls.count (n - 1) : Nat) ∧ Tab w g a L cap ls n dv ∧ Kept [] w0 w ∧ Fresh w0.heap.size (g :: foot dv)
/-- In the loop within: of i symbols those with length n are laid. -/
def MadeJ (w0 : World) (g : Nat) (a : Option Addr) (L cap : Nat) (ls : List Nat) (n : Nat) (k : Nat) (cv iv : Value) (w : World) : Prop :=
  ∃ i dv, i ≤ ls.length ∧ k = ls.length - i ∧ iv = .int .i64 (i : Nat) ∧ cv = .int .i64 (K.firstP ls n + (K.idxsTo ls n i).length : Nat) ∧
    Arr w g 136 (tabVals (.slice a L cap) dv (tabF ls (n + 1)) (tabB ls (n + 1)) ((tabC ls n).set n (K.idxsTo ls n i).length)) ∧
    Row w 3 dv (natVals (K.orderTo ls n ++ K.idxsTo ls n i)) ∧ g ∉ foot dv ∧ Kept [] w0 w ∧ Fresh w0.heap.size (g :: foot dv)
/-- What made leaves, where it makes a table. -/
def MadePost (a : Option Addr) (L cap : Nat) (ls : List Nat) (M : Nat) (w : World) (e : Ending) (w' : World) : Prop :=
  ∃ g dv, e = .returned (.tuple #[.pointer (some ⟨g, 0, none⟩), .int .i64 0]) ∧ Tab w' g a L cap ls (M + 1) dv ∧ Kept [] w w' ∧ Fresh w.heap.size (g :: foot dv)
theorem orderTo_len (ls : List Nat) (N : Nat) : (K.orderTo ls N).length ≤ N * ls.length := by
  induction N with
  | zero => simp [K.orderTo]
  | succ N ih =>
    rw [K.orderTo, List.length_append, K.idxs_length, Nat.succ_mul]
    have := List.count_le_length (a := N) (l := ls)
    omega

set_option maxRecDepth 100000 in
set_option maxHeartbeats 1000000 in
theorem made_ok (a : Option Addr) (cap : Nat) (xs : List Int) (w : World) (h : Sees w 1 a xs.length (intVals xs)) (hok : K.goodL xs = true) :
    Calls Try.prog 83 #[.slice a xs.length cap] w (MadePost a xs.length cap (K.natsOf xs) (maxL xs).toNat w) := by
  have hin := ((K.lensOk_iff xs).1 (K.goodL_lens hok)).2
  have hl := ((K.lensOk_iff xs).1 (K.goodL_lens hok)).1
  have hM0 := (maxL_ge xs).1
  have hM := maxL_le xs 20 (by decide) (fun x hx => (hin x hx).2)
  obtain ⟨M, hMM⟩ := Int.eq_ofNat_of_zero_le hM0
  have hR : checkR xs = 0 := by unfold checkR; rw [hok]; rfl
  obtain ⟨b0, off, rfl, -⟩ := h.at (by rw [intVals_length]; omega)
  have hfit := fun n hn => K.fits (K.natsOf xs) (fun x hx => (K.goodL_in hok x hx).2) (K.goodL_room hok) n hn
  have HS := Lib.hid h
  have HIN := Lib.hid hin
  have HFIT := Lib.hid hfit
  have HM := Lib.hid hMM
  have hM20 : M ≤ 20 := by omega
  have hz := Try.zTable
  clear h hin hM0 hfit hM
  go_enter Try.func83, Try.ntmps83
  go_wp2_with fail
  refine (check_any (some ⟨b0, off, none⟩) cap xs _ HS.out (by omega)).mono ?_
  rintro e w' ⟨rfl, rfl⟩
  rw [hR]
  clear hR hMM
  go_wp2_with fail
  rw [tab_new]
  have hA := Arr.new w (tabVals (.slice (some ⟨b0, off, none⟩) xs.length cap) (.slice none 0 0) z22 z22 z22) 136
  have hk0 : Kept [] w (w.alloc (.cells (tabVals (.slice (some ⟨b0, off, none⟩) xs.length cap) (.slice none 0 0) z22 z22 z22).toArray 136)) := (Kept.refl _ _).alloc _
  generalize w.alloc (.cells (tabVals (.slice (some ⟨b0, off, none⟩) xs.length cap) (.slice none 0 0) z22 z22 z22).toArray 136) = W0 at hA hk0 ⊢
  have hg0 : w.heap.size ≤ w.heap.size := Nat.le_refl _
  generalize hg : w.heap.size = g at hA hg0 ⊢
  have HG := Lib.hid hg
  have HA := Lib.hid hA
  have HK0 := Lib.hid hk0
  clear hz hg hA hk0 hg0
  obtain ⟨ls, hls⟩ : ∃ ls, K.natsOf xs = ls := ⟨_, rfl⟩
  have hll : ls.length = xs.length := by rw [← hls, K.natsOf_length]
  have hzc : ls.count 0 = 0 := by
    rw [List.count_eq_zero]
    intro h; rw [← hls] at h; have := (K.goodL_in hok 0 h).1; omega
  have HLS := Lib.hid hls
  have HLL := Lib.hid hll
  have HZC := Lib.hid hzc
  rw [hls] at HFIT ⊢
  clear hls hll hzc hok
  go_loopg [6, 7] M (fun k cv nv wr => MadeI w g (some ⟨b0, off, none⟩) xs.length cap ls M k cv nv wr)
  case atStart =>
    refine ⟨1, .slice none 0 0, Nat.le_refl _, by omega, by omega, rfl, by rw [show 1 - 1 = 0 from rfl, HZC.out]; rfl, ⟨?_, ?_, by simp [foot, Value.ownBlock]⟩, HK0.out, fun x hx => ?_⟩
    · unfold tabF tabB tabC; rw [tabUpto_one, tabUpto_one, tabUpto_one]; exact HA.out
    · have : K.orderTo ls 1 = [] := by
        rw [K.orderTo, K.orderTo, List.nil_append]
        exact List.eq_nil_of_length_eq_zero (by rw [K.idxs_length]; exact HZC.out)
      rw [this]; exact Row.nil _ _
    · simp [foot, Value.ownBlock] at hx
      rw [hx, HG.out]; exact Nat.le_refl _
  case round =>
    obtain ⟨n, dv, hn1, hn, hk, rfl, rfl, htab, hkept, hfr⟩ := hrel
    have Hk := Lib.hid hk
    have HT := Lib.hid htab
    have HKE := Lib.hid hkept
    have HFR := Lib.hid hfr
    have c0 := Tab.of htab.1
    clear hk htab hkept hfr
    go_wp2_with fail
    refine (longest_any (some ⟨b0, off, none⟩) cap xs _ (HS.out.kept0 HKE.out) (by omega)).mono ?_
    rintro e w2 ⟨rfl, hk2⟩
    have HT2 := Lib.hid (HT.out.kept hk2 (Apart.nil _))
    have HKE2 := Lib.hid (HKE.out.new hk2 (by simp [Fresh]))
    rw [HM.out]
    clear hk2 c0
    by_cases hlt : n ≤ M
    · have hni : (n : Int) ≤ (M : Int) := by omega
      have hfit1 := HFIT.out (n - 1) (by omega)
      have hp20 : 2 ^ (n - 1) ≤ 2 ^ 19 := Nat.pow_le_pow_right (by decide) (by omega)
      have hcode : K.firstP ls n = 2 * (K.firstP ls (n - 1) + ls.count (n - 1)) := by
        obtain ⟨m, rfl⟩ : ∃ m, n = m + 1 := ⟨n - 1, by omega⟩
        rw [Nat.add_sub_cancel, K.firstP]
      have hc19 : K.firstP ls (n - 1) + ls.count (n - 1) ≤ 524288 := Nat.le_trans hfit1 hp20
      obtain ⟨code, hcd⟩ : ∃ code, K.firstP ls (n - 1) + ls.count (n - 1) = code := ⟨_, rfl⟩
      rw [hcd] at hcode hc19 ⊢
      have HCODE := Lib.hid hcode
      have hshl : IntKind.i64.wrap ((code : Int) * 2) = ((2 * code : Nat) : Int) := by rw [IntWalk.i64_in _ (by omega)]; omega
      obtain ⟨av, cv, hv, -, -, -, -⟩ := HT2.out.2.1.sees
      rw [natVals_length] at hv
      subst hv
      have c1 := Tab.order HT2.out.1
      have cf := Tab.first HT2.out.1 n 0 (by unfold tabF; rw [tabUpto_get _ _ _ (by omega), if_neg (by omega)])
      have cb := Tab.begin HT2.out.1 (tabUpto_length _ _) n 0 (by unfold tabB; rw [tabUpto_get _ _ _ (by omega), if_neg (by omega)])
      have ff := HT2.out.1.free (2 + n)
      have fb := HT2.out.1.free (24 + n)
      have hn22 : (n : Int) < 22 := by omega
      have hol := orderTo_len ls n
      have hA1 := Tab.setFirst HT2.out.1 n (2 * code) (by unfold tabF; rw [tabUpto_length]; omega)
      have hA2 := Tab.setBegin hA1 (by rw [List.length_set]; exact tabUpto_length _ _) n (K.orderTo ls n).length (by unfold tabB; rw [tabUpto_length]; omega)
      have eF : (tabF ls n).set n (2 * code) = tabF ls (n + 1) := by rw [← hcode]; exact tabUpto_set _ n hn1 (by omega)
      have eB : (tabB ls n).set n (K.orderTo ls n).length = tabB ls (n + 1) := tabUpto_set (fun j => (K.orderTo ls j).length) n hn1 (by omega)
      rw [eF, eB, show ((2 * code : Nat) : Int) = 2 * (code : Int) by omega] at hA2
      have hkA : Kept [g] w2 ((w2.setCell ⟨g, 2 + n, none⟩ (.int .i64 (2 * (code : Int)))).setCell ⟨g, 24 + n, none⟩ (.int .i64 ((K.orderTo ls n).length : Int))).drew :=
        (((Kept.refl [g] w2).setCell (by simp) _).setCell (by simp) _).drew
      have HA2 := Lib.hid hA2
      have HKA := Lib.hid hkA
      clear hfit1 hp20 hcd hcode hA1 hA2 eF eB hkA
      go_wp2_with fail
      go_region
      have hA3 : Arr ((w2.setCell ⟨g, 2 + n, none⟩ (.int .i64 (2 * (code : Int)))).setCell ⟨g, 24 + n, none⟩ (.int .i64 ((K.orderTo ls n).length : Int))).drew g 136 (tabVals (.slice (some ⟨b0, off, none⟩) xs.length cap) (.slice av (K.orderTo ls n).length cv) (tabF ls (n + 1)) (tabB ls (n + 1)) (tabC ls n)) := HA2.out
      have hkA := HKA.out
      clear HA2 HKA c1 cf cb ff fb
      generalize ((w2.setCell ⟨g, 2 + n, none⟩ (.int .i64 (2 * (code : Int)))).setCell ⟨g, 24 + n, none⟩ (.int .i64 ((K.orderTo ls n).length : Int))).drew = W3 at hA3 hkA ⊢
      have HA3 := Lib.hid hA3
      have HROW3 := Lib.hid (HT2.out.2.1.kept hkA (fun x hx hm => HT2.out.2.2 (by rw [List.mem_singleton.1 hm] at hx; exact hx)))
      have HNG := Lib.hid HT2.out.2.2
      have HK3 := Lib.hid (HKE2.out.new hkA (fun x hx => by rw [List.mem_singleton.1 hx]; exact HFR.out g (by simp)))
      have c0 := Tab.of hA3
      clear hA3 hkA
      go_wp2_with fail
      go_loopg [6, 52] ls.length (fun k cv iv wr => MadeJ w g (some ⟨b0, off, none⟩) xs.length cap ls n k cv iv wr)
      case atStart =>
        refine ⟨0, _, by omega, by omega, rfl, ?_, ?_, ?_, HNG.out, HK3.out, HFR.out⟩
        · rw [K.idxsTo_zero, HCODE.out]; go_num
        · rw [K.idxsTo_zero]
          have e : (tabC ls n).set n 0 = tabC ls n := by
            apply List.ext_getElem?
            intro j
            rw [List.getElem?_set]
            split
            · rename_i hj
              subst hj
              unfold tabC
              rw [tabUpto_get _ _ _ (by omega), tabUpto_length, if_pos (by omega), if_neg (by omega)]
            · rfl
          rw [show (([] : List Nat)).length = 0 from rfl, e]
          exact HA3.out
        · rw [K.idxsTo_zero, List.append_nil]; exact HROW3.out
      case round =>
        obtain ⟨i, dv, hi, hk, rfl, rfl, hA, hrow, hng, hkept, hfr⟩ := hrel
        have Hk2 := Lib.hid hk
        obtain ⟨O, hO⟩ : ∃ O, K.orderTo ls n ++ K.idxsTo ls n i = O := ⟨_, rfl⟩
        rw [hO] at hrow
        have HO := Lib.hid hO
        have HA := Lib.hid hA
        have HROW := Lib.hid hrow
        have HNG2 := Lib.hid hng
        have HKE4 := Lib.hid hkept
        have HFR4 := Lib.hid hfr
        have hidl := K.idxsTo_length ls n i hi
        have hcl : (ls.take i).count n ≤ 258 := Nat.le_trans (List.count_le_length ..) (by rw [List.length_take]; have := HLL.out; omega)
        clear hk hA hrow hng hkept hfr c0 hO
        obtain ⟨av2, cv2, hv, -, -, -, -⟩ := HROW.out.sees
        rw [natVals_length] at hv
        subst hv
        by_cases hlt2 : i < xs.length
        · have hli : (i : Int) < (xs.length : Int) := by omega
          obtain ⟨x, hx⟩ : ∃ x, xs[i]? = some x := ⟨_, List.getElem?_eq_getElem hlt2⟩
          have hxin := HIN.out x (List.mem_of_getElem? hx)
          have c3 := (HS.out.kept0 HKE4.out).int hx
          obtain ⟨m, rfl⟩ := Int.eq_ofNat_of_zero_le (show 0 ≤ x by omega)
          have hlx : ls.getD i 0 = m := by
            rw [← HLS.out]; unfold K.natsOf
            rw [List.getD, List.getElem?_map, hx]; rfl
          clear hx hxin
          by_cases hmn : m = n
          · have hmi : (m : Int) = (n : Int) := by omega
            have c1 := Tab.order HA.out
            have f1 := HA.out.free 1
            have cc := Tab.count HA.out (tabUpto_length _ _) (tabUpto_length _ _) n (K.idxsTo ls n i).length (by rw [List.getElem?_set, if_pos rfl, if_pos (by unfold tabC; rw [tabUpto_length]; omega)])
            have fc := HA.out.free (46 + n)
            have hyes := K.idxsTo_yes ls n i (hlx.trans hmn)
            have hro := HROW.out
            have hoi := orderTo_len ls n
            have hxl : O.length ≤ 6000 := by
              rw [← HO.out, List.length_append]
              have := HLL.out
              have := Nat.mul_le_mul (show n ≤ 20 by omega) (show ls.length ≤ 258 by omega)
              omega
            have L1 : (natVals O).length + 1 ≤ maxLen := by rw [natVals_length]; simp only [maxLen]; omega
            have L2 : ((natVals O).length + 1) * 8 ≤ 140737488355328 := by rw [natVals_length]; omega
            have HY := Lib.hid hyes
            have hilen : (K.idxsTo ls n i).length ≤ 258 := by omega
            have hfl := HFIT.out n (by omega)
            have hfl2 : K.firstP ls n ≤ 1048576 := by
              have : 2 ^ n ≤ 2 ^ 20 := Nat.pow_le_pow_right (by decide) (by omega)
              have e : (2 : Nat) ^ 20 = 1048576 := rfl
              omega
            subst hmn
            clear hyes hoi hlx hidl hcl hfl
            go_wp2_with ((at_builtin; refine wp_appL _ rfl _ _ 30 rfl 3 (.int .i64 0) 8 Try.underlying30 Try.infoInt rfl _ _ [.int .i64 (i : Int)] 1 rfl rfl rfl rfl (by simp [Value.oneCell']) hro L1 L2 ?_; intro a5 cap5 w5 hrow5 hk5 hg5; have d1 := hk5.cellOf c1 HNG2.out; have e1 := (hk5.frozenOf c1 HNG2.out).trans f1; have dc := hk5.cellOf cc HNG2.out; have ec := (hk5.frozenOf cc HNG2.out).trans fc))
            go_region
            go_wp2_with fail
            go_roundg (ls.length - (i + 1))
            case measure => have := Hk2.out; have := HLL.out; omega
            case rel =>
              have hgw : g < wr.heap.size := HA.out.lt
              have hA5 := HA.out.kept hk5 HNG2.out
              have hA6 := Tab.setOrder hA5 (.slice a5 ((natVals O).length + 1) cap5)
              have hA7 := Tab.setCount hA6 (tabUpto_length _ _) (tabUpto_length _ _) m ((K.idxsTo ls m i).length + 1)
              have hng5 : g ∉ foot (.slice a5 ((natVals O).length + 1) cap5) := by
                intro hm
                rcases hg5 g hm with h | h
                · exact HNG2.out h
                · omega
              have hr7 : Row ((w5.setCell ⟨g, 1, none⟩ (.slice a5 ((natVals O).length + 1) cap5)).setCell ⟨g, 46 + m, none⟩ (.int .i64 ((((K.idxsTo ls m i).length + 1 : Nat)) : Int))).drew 3 (.slice a5 ((natVals O).length + 1) cap5) (natVals O ++ [.int .i64 (i : Int)]) :=
                hrow5.kept ((((Kept.refl [g] w5).setCell (by simp) _).setCell (by simp) _).drew) (fun x hx hm => hng5 (by rw [List.mem_singleton.1 hm] at hx; exact hx))
              have hfd : Fresh w.heap.size (foot (.slice av2 O.length cv2)) := fun x hx => HFR4.out x (by simp [hx])
              have hk7 : Kept [] w ((w5.setCell ⟨g, 1, none⟩ (.slice a5 ((natVals O).length + 1) cap5)).setCell ⟨g, 46 + m, none⟩ (.int .i64 ((((K.idxsTo ls m i).length + 1 : Nat)) : Int))).drew :=
                (((HKE4.out.new hk5 hfd).setCell (.inr (HFR4.out g (by simp))) _).setCell (.inr (HFR4.out g (by simp))) _).drew
              have hfr7 : Fresh w.heap.size (g :: foot (.slice a5 ((natVals O).length + 1) cap5)) := by
                intro x hx
                rcases List.mem_cons.1 hx with rfl | hx
                · exact HFR4.out _ (by simp)
                · exact (hfd.grow hg5 HKE4.out.size) x hx
              have e1 : (((K.idxsTo ls m i).length + 1 : Nat) : Int) = ((K.idxsTo ls m i).length : Int) + 1 := by omega
              rw [e1] at hA7 hr7 hk7
              refine ⟨i + 1, _, by have := HLL.out; omega, rfl, by go_num, ?_, ?_, ?_, hng5, hk7, hfr7⟩
              · rw [HY.out, List.length_append]; go_num
              · rw [HY.out, List.length_append, show [i].length = 1 from rfl]
                rw [List.set_set] at hA7
                exact hA7
              · rw [HY.out, ← List.append_assoc, HO.out, natVals_append]
                exact hr7
          · have hmi : ((m : Int) == (n : Int)) = false := by simp; omega
            have hmi2 : ¬ (m : Int) = (n : Int) := by omega
            have hno := K.idxsTo_no ls n i (by rw [hlx]; exact hmn)
            have HN := Lib.hid hno
            clear hno hlx hmn hidl hcl
            go_wp2_with fail
            go_roundg (ls.length - (i + 1))
            case measure => have := Hk2.out; have := HLL.out; omega
            case rel =>
              refine ⟨i + 1, _, by have := HLL.out; omega, rfl, by go_num, by rw [HN.out], ?_, ?_, HNG2.out, HKE4.out, HFR4.out⟩
              · rw [HN.out]; exact HA.out
              · rw [HN.out, HO.out]; exact HROW.out
        · have hie : i = ls.length := by have := HLL.out; omega
          have hid : (K.idxsTo ls n i).length = ls.count n := by rw [hidl, hie, List.take_length]
          have hA8 := HA.out
          rw [hid] at hA8
          have e8 : (tabC ls n).set n (ls.count n) = tabC ls (n + 1) := tabUpto_set (fun j => ls.count j) n hn1 (by omega)
          rw [e8] at hA8
          have e9 : K.orderTo ls (n + 1) = O := by rw [← HO.out, hie, K.orderTo]; rfl
          have hr8 : Row wr 3 (.slice av2 O.length cv2) (natVals (K.orderTo ls (n + 1))) := by rw [e9]; exact HROW.out
          have HA8 := Lib.hid hA8
          have HR8 := Lib.hid hr8
          have HID := Lib.hid hid
          clear hidl hcl hie hid hA8 hr8 e8 e9
          go_wp2_with fail
          go_roundg (M + 1 - (n + 1))
          case measure => have := Hk.out; omega
          case rel => exact ⟨n + 1, _, by omega, by omega, rfl, by go_num, by rw [Nat.add_sub_cancel, HID.out], ⟨HA8.out, HR8.out, HNG2.out⟩, HKE4.out, HFR4.out⟩
    · obtain rfl : n = M + 1 := by omega
      have hni : ¬ ((M + 1 : Nat) : Int) ≤ (M : Int) := by omega
      go_wp2_with fail
      go_ret2
      exact ⟨g, dv, rfl, by rw [HM.out, HLS.out, Int.toNat_natCast]; exact HT2.out, HKE2.out, HFR.out⟩
end Go.Proofs.Ytdaenajhgbagdaa
namespace Go.Proofs.Ytdaenajhgbagdaa
open Go.RowKit
set_option linter.unusedVariables false
set_option linter.unusedSimpArgs false

theorem made_err (a : Option Addr) (cap : Nat) (xs : List Int) (w : World) (h : Sees w 1 a xs.length (intVals xs)) (hlen : xs.length ≤ 140737488351232) (hok : K.goodL xs = false) :
    Calls Try.prog 83 #[.slice a xs.length cap] w fun e w' => e = .returned (.tuple #[.pointer none, .int .i64 80]) ∧ w = w' := by
  have hR : checkR xs = 80 := by unfold checkR; rw [hok]; rfl
  have HS := Lib.hid h
  clear h hok
  go_enter Try.func83, Try.ntmps83
  go_wp2_with fail
  refine (check_any a cap xs _ HS.out hlen).mono ?_
  rintro e w' ⟨rfl, rfl⟩
  rw [hR]
  clear hR
  go_wp2_with fail
  go_ret2
  exact ⟨rfl, rfl⟩

/-- Codes of the symbols that stand in O. -/
def filled (ls : List Nat) (O : List Nat) : List Nat := (List.range ls.length).map fun i => if i ∈ O then K.codeP ls i else 0
theorem filled_length (ls O : List Nat) : (filled ls O).length = ls.length := by simp [filled]
theorem filled_nil (ls : List Nat) : List.replicate ls.length (Value.int .i64 0) = natVals (filled ls []) := by
  apply List.ext_getElem?
  intro i
  by_cases hi : i < ls.length
  · rw [List.getElem?_replicate, if_pos hi]; simp [natVals, filled, List.getElem?_range hi]
  · rw [List.getElem?_eq_none (by simp; omega), List.getElem?_eq_none (by rw [natVals_length, filled_length]; omega)]
theorem filled_snoc (ls O : List Nat) (i : Nat) (hi : i < ls.length) : (filled ls O).set i (K.codeP ls i) = filled ls (O ++ [i]) := by
  apply List.ext_getElem?
  intro j
  rw [List.getElem?_set]
  by_cases hj : j < ls.length
  · have e1 : ∀ O : List Nat, (filled ls O)[j]? = some (if j ∈ O then K.codeP ls j else 0) := fun O => by simp [filled, List.getElem?_range hj]
    rw [e1, e1, filled_length]
    by_cases hij : i = j
    · subst hij; rw [if_pos rfl, if_pos hi, if_pos (by simp)]
    · rw [if_neg hij]
      congr 1
      have : j ∈ O ++ [i] ↔ j ∈ O := by simp; omega
      simp only [this]
  · rw [List.getElem?_eq_none (by rw [filled_length]; omega), List.getElem?_eq_none (by rw [filled_length]; omega), if_neg (by omega)]
theorem filled_all (ls : List Nat) (N : Nat) (h : ∀ x ∈ ls, x < N) : filled ls (K.orderTo ls N) = K.codesP ls := by
  unfold filled K.codesP
  refine List.map_congr_left fun i hi => ?_
  have hi := List.mem_range.1 hi
  obtain ⟨k, hk⟩ := K.orderTo_all ls N h i hi
  rw [if_pos (List.mem_of_getElem? hk)]

/-- In codes' loop: k codes are laid. -/
def CodesI (w0 : World) (g h : Nat) (ls O : List Nat) (k : Nat) (c : Value) (w : World) : Prop :=
  ∃ k', k' ≤ O.length ∧ k = O.length - k' ∧ c = .int .i64 (k' : Nat) ∧ Row w 3 (.slice (some ⟨h, 0, none⟩) ls.length ls.length) (natVals (filled ls (O.take k'))) ∧ Kept [h] w0 w

set_option maxHeartbeats 1000000 in
theorem codes_ok (g : Nat) (a : Option Addr) (cap : Nat) (xs : List Int) (dv : Value) (w : World) (h : Sees w 1 a xs.length (intVals xs)) (hok : K.goodL xs = true) (hT : Tab w g a xs.length cap (K.natsOf xs) ((maxL xs).toNat + 1) dv) :
    Calls Try.prog 86 #[.pointer (some ⟨g, 0, none⟩)] w fun e w' => ∃ h, e = .returned (.slice (some ⟨h, 0, none⟩) xs.length xs.length) ∧
      Row w' 3 (.slice (some ⟨h, 0, none⟩) xs.length xs.length) (natVals (K.codesP (K.natsOf xs))) ∧ Kept [] w w' ∧ w.heap.size ≤ h := by
  have hin := ((K.lensOk_iff xs).1 (K.goodL_lens hok)).2
  have hl := ((K.lensOk_iff xs).1 (K.goodL_lens hok)).1
  have hM0 := (maxL_ge xs)
  have hM := maxL_le xs 20 (by decide) (fun x hx => (hin x hx).2)
  obtain ⟨M, hMM⟩ := Int.eq_ofNat_of_zero_le hM0.1
  obtain ⟨b0, off, rfl, -⟩ := h.at (by rw [intVals_length]; omega)
  rw [hMM, Int.toNat_natCast] at hT
  have hM20 : M ≤ 20 := by omega
  have hfit := fun n hn => K.fits (K.natsOf xs) (fun x hx => (K.goodL_in hok x hx).2) (K.goodL_room hok) n hn
  have hall : ∀ x ∈ K.natsOf xs, x < M + 1 := by
    intro x hx
    simp only [K.natsOf, List.mem_map] at hx
    obtain ⟨y, hy, rfl⟩ := hx
    have := hM0.2 y hy
    omega
  obtain ⟨ls, hls⟩ : ∃ ls, K.natsOf xs = ls := ⟨_, rfl⟩
  have hll : ls.length = xs.length := by rw [← hls, K.natsOf_length]
  have hget : ∀ i x, xs[i]? = some x → x = ((ls.getD i 0 : Nat) : Int) := by
    intro i x hx
    have := hin x (List.mem_of_getElem? hx)
    rw [← hls]; unfold K.natsOf
    rw [List.getD, List.getElem?_map, hx]
    simp; omega
  rw [hls] at hfit hall hT ⊢
  have hpos : ∀ x ∈ ls, 1 ≤ x := fun x hx => by rw [← hls] at hx; exact (K.goodL_in hok x hx).1
  have HPOS := Lib.hid hpos
  clear hpos
  obtain ⟨O, hO⟩ : ∃ O, K.orderTo ls (M + 1) = O := ⟨_, rfl⟩
  have hOl := orderTo_len ls (M + 1)
  have hinv := K.orderTo_inv ls (M + 1)
  have hfa := filled_all ls (M + 1) hall
  rw [hO] at hOl hinv hfa
  obtain ⟨hA, hrow, hng⟩ := hT
  rw [hO] at hrow
  obtain ⟨av, cv, hv, -, -, -, -⟩ := hrow.sees
  rw [natVals_length] at hv
  subst hv
  have c0 := Tab.of hA
  have c1 := Tab.order hA
  have hO6 : O.length ≤ 6000 := by
    have := Nat.mul_le_mul (show M + 1 ≤ 21 by omega) (show ls.length ≤ 258 by omega)
    omega
  have HS := Lib.hid h
  have HFIT := Lib.hid hfit
  have HLL := Lib.hid hll
  have HGET := Lib.hid hget
  have HINV := Lib.hid hinv
  have HFA := Lib.hid hfa
  have HA := Lib.hid hA
  have HSO := Lib.hid hrow.seeA
  have HIN := Lib.hid hall
  have hone : 0 < xs.length := by omega
  have hl2 : xs.length ≤ 258 := hl.2
  clear h hin hM0 hM hMM hfit hall hls hll hget hO hOl hinv hfa hA hrow hng hl hok
  go_enter Try.func86, Try.ntmps86
  go_wp2_with ((at_make; refine wp_make1 rfl _ _ 30 rfl 3 (.int .i64 0) 8 Try.underlying30 Try.infoInt rfl .i64 .i64 _ _ xs.length xs.length rfl rfl rfl rfl (Nat.le_refl _) (by omega) (by simp only [maxLen]; omega) ?_; intro w1 hrow1 hk1; have c0 := hk1.cellOf c0 (by simp); have c1 := hk1.cellOf c1 (by simp)))
  have hr1 : Row w1 3 (.slice (some ⟨w.heap.size, 0, none⟩) ls.length ls.length) (natVals (filled ls (O.take 0))) := by
    rw [List.take_zero, ← filled_nil, HLL.out]; exact hrow1
  have HR1 := Lib.hid hr1
  have HK1 := Lib.hid hk1
  have HA1 := Lib.hid (HA.out.kept hk1 (by simp))
  have HSO1 := Lib.hid (HSO.out.kept0 hk1)
  have HS1 := Lib.hid (HS.out.kept0 hk1)
  have hgh : g < w.heap.size := HA.out.lt
  generalize hh : w.heap.size = h at hgh hr1 HR1 ⊢
  have HH := Lib.hid hh
  clear hh hrow1 hk1 hr1 c0 c1
  have c0 := Tab.of HA1.out
  have c1 := Tab.order HA1.out
  go_wp2_with fail
  go_loopg [19] O.length (fun k c wr => CodesI w1 g h ls O k c wr)
  case atStart => exact ⟨0, by omega, by omega, rfl, HR1.out, Kept.refl _ _⟩
  case round =>
    obtain ⟨k, hkl, hk, rfl, hrow, hkept⟩ := hrel
    have Hk := Lib.hid hk
    have HROW := Lib.hid hrow
    have HKE := Lib.hid hkept
    clear hk hrow hkept c0 c1
    by_cases hlt : k < O.length
    · have hli : (k : Int) < (O.length : Int) := by omega
      obtain ⟨i, hi⟩ : ∃ i, O[k]? = some i := ⟨_, List.getElem?_eq_getElem hlt⟩
      obtain ⟨h1, h2, h3⟩ := HINV.out k i hi
      have hgh2 : ∀ x, x ≠ h → x ∉ [h] := fun x hx hm => hx (List.mem_singleton.1 hm)
      obtain ⟨bo, oo, rfl, -⟩ := HSO1.out.at (by rw [natVals_length]; omega)
      have hsb : bo < h := by rw [← HH.out]; exact HSO.out.lt (by rw [natVals_length]; omega) bo (by simp [footA])
      have hb0 : b0 < h := by rw [← HH.out]; exact HS.out.lt (by rw [intVals_length]; omega) b0 (by simp [footA])
      have hso := (HSO1.out.kept HKE.out (fun x hx => hgh2 x (by simp [footA] at hx; omega)))
      have hs1 := (HS1.out.kept HKE.out (fun x hx => hgh2 x (by simp [footA] at hx; omega)))
      have hA2 := HA1.out.kept HKE.out (hgh2 g (by omega))
      obtain ⟨x, hx⟩ : ∃ x, xs[i]? = some x := ⟨_, List.getElem?_eq_getElem (by rw [← HLL.out]; exact h1)⟩
      have hxe := HGET.out i x hx
      obtain ⟨n, hn⟩ : ∃ n, ls.getD i 0 = n := ⟨_, rfl⟩
      rw [hn] at hxe h2 h3
      subst hxe
      have c0 := Tab.of hA2
      have c2 := hs1.int hx
      have c3 : wr.cell? ⟨bo, oo + k, none⟩ = some (.int .i64 (i : Int)) := by
        obtain ⟨b', o', he, hc⟩ := hso.2 k _ (nat_get O k i hi)
        injection he with he
        injection he with e1 e2
        subst e1 e2
        exact hc
      have hn1 : 1 ≤ n := by
        have hm : ls.getD i 0 ∈ ls := by rw [List.getD, List.getElem?_eq_getElem h1]; exact List.getElem_mem h1
        have := HPOS.out _ hm
        omega
      have cf := Tab.first hA2 n (K.firstP ls n) (by unfold tabF; rw [tabUpto_get _ _ _ (by omega), if_pos (by omega)])
      have cb := Tab.begin hA2 (tabUpto_length _ _) n (K.orderTo ls n).length (by unfold tabB; rw [tabUpto_get _ _ _ (by omega), if_pos (by omega)])
      have hil : i < xs.length := by rw [← HLL.out]; exact h1
      have hili : (i : Int) < (xs.length : Int) := by omega
      obtain ⟨old, hold⟩ : ∃ old, (filled ls (O.take k))[i]? = some old := ⟨_, List.getElem?_eq_getElem (by rw [filled_length]; exact h1)⟩
      have co := HROW.out.cellAt (nat_get _ i _ hold)
      have fo := HROW.out.free i
      have hn22 : (n : Int) < 22 := by omega
      have hfit := HFIT.out n (by omega)
      have hp20 : 2 ^ n ≤ 2 ^ 20 := Nat.pow_le_pow_right (by decide) (by omega)
      have hf20 : K.firstP ls n ≤ 1048576 := by
        have e : (2 : Nat) ^ 20 = 1048576 := rfl
        omega
      have hsum : IntKind.i64.wrap ((K.firstP ls n : Int) + (k : Int)) = (K.firstP ls n : Int) + (k : Int) := IntWalk.i64_in _ (by omega)
      have hcode : K.codeP ls i = K.firstP ls n + k - (K.orderTo ls n).length := by
        unfold K.codeP
        rw [hn]
        omega
      have hcw : IntKind.i64.wrap ((K.firstP ls n : Int) + (k : Int) - ((K.orderTo ls n).length : Int)) = ((K.codeP ls i : Nat) : Int) := by
        rw [IntWalk.i64_in _ (by omega), hcode]; omega
      have htk : O.take (k + 1) = O.take k ++ [i] := by rw [List.take_add_one, hi]; rfl
      have hput := HROW.out.put i (.int .i64 ((K.codeP ls i : Nat) : Int))
      rw [nat_set, filled_snoc ls _ i h1, ← htk] at hput
      have HPUT := Lib.hid hput
      have hgo : ¬ g = h := by omega
      have hbo : ¬ bo = h := by omega
      have hbo2 : ¬ b0 = h := by omega
      clear hold hx hn hgh2 hso hs1 hA2 hi hfit hp20 hcode htk hput h1 h3
      generalize K.codeP ls i = cd at hcw HPUT
      go_wp2_with fail
      go_region
      go_wp2_with fail
      go_roundg (O.length - (k + 1))
      case measure => have := Hk.out; omega
      case rel => exact ⟨k + 1, by omega, rfl, by go_num, HPUT.out, (HKE.out.setCell (by simp) _).drew⟩
    · obtain rfl : k = O.length := by omega
      have hr := HROW.out
      rw [List.take_length, HFA.out, HLL.out] at hr
      have HR := Lib.hid hr
      clear hr
      go_wp2_with fail
      go_ret
      exact ⟨h, rfl, HR.out, HK1.out.trans HKE.out (fun x hx => .inr (by rw [List.mem_singleton.1 hx, HH.out]; exact Nat.le_refl _)), by rw [HH.out]; exact Nat.le_refl _⟩
end Go.Proofs.Ytdaenajhgbagdaa
