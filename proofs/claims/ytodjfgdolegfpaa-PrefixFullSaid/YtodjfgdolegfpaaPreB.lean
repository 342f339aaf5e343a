/-
  The walk of prefix's made.
-/
import Derived.Test.YtodjfgdolegfpaaPreA
import Derived.Test.YtodjfgdolegfpaaLibC
namespace Go.Proofs.Ytodjfgdolegfpaa
open Go.RowKit
set_option linter.unusedVariables false
set_option linter.unusedSimpArgs false

/-- What stands in a table's rows ahead of length n. -/
def tabUpto (f : Nat → Nat) (n : Nat) : List Nat := (List.range 22).map fun j => if 1 ≤ j ∧ j < n then f j else 0
theorem tabUpto_length (f : Nat → Nat) (n : Nat) : (tabUpto f n).length = 22 := by simp [tabUpto]
theorem tabUpto_get (f : Nat → Nat) (n j : Nat) (hj : j < 22) : (tabUpto f n)[j]? = some (if 1 ≤ j ∧ j < n then f j else 0) := by simp [tabUpto, List.getElem?_range hj]
theorem tabUpto_one (f : Nat → Nat) : tabUpto f 1 = z22 := by
  apply List.ext_getElem?
  intro j
  by_cases hj : j < 22
  · rw [tabUpto_get f 1 j hj, if_neg (by omega)]
    unfold z22
    rw [List.getElem?_replicate, if_pos hj]
  · rw [List.getElem?_eq_none (by rw [tabUpto_length]; omega), List.getElem?_eq_none (by simp [z22]; omega)]
theorem tabUpto_set (f : Nat → Nat) (n : Nat) (h1 : 1 ≤ n) (hn : n < 22) : (tabUpto f n).set n (f n) = tabUpto f (n + 1) := by
  apply List.ext_getElem?
  intro j
  rw [List.getElem?_set]
  by_cases hj : j < 22
  · rw [tabUpto_get f _ j hj, tabUpto_get f _ j hj, tabUpto_length]
    by_cases hnj : n = j
    · subst hnj
      rw [if_pos rfl, if_pos hn, if_pos (by omega)]
    · rw [if_neg hnj]
      congr 1
      by_cases hc : 1 ≤ j ∧ j < n
      · rw [if_pos hc, if_pos (by omega)]
      · rw [if_neg hc, if_neg (by omega)]
  · rw [List.getElem?_eq_none (by rw [tabUpto_length]; omega), List.getElem?_eq_none (by rw [tabUpto_length]; omega), if_neg (by omega)]
def tabF (ls : List Nat) (n : Nat) : List Nat := tabUpto (K.firstP ls) n
def tabB (ls : List Nat) (n : Nat) : List Nat := tabUpto (fun j => (K.orderTo ls j).length) n
def tabC (ls : List Nat) (n : Nat) : List Nat := tabUpto (fun j => ls.count j) n

/-- A table of lengths at block g: its slices of order and of lengths, all lengths below N laid. -/
def Tab (w : World) (g : Nat) (a : Option Addr) (L cap : Nat) (ls : List Nat) (N : Nat) (dv : Value) : Prop :=
  Arr w g 79 (tabVals (.slice a L cap) dv (tabF ls N) (tabB ls N) (tabC ls N)) ∧ Row w 3 dv (natVals (K.orderTo ls N)) ∧ g ∉ foot dv
theorem Tab.kept {S : List Nat} {w w' : World} {g : Nat} {a : Option Addr} {L cap : Nat} {ls : List Nat} {N : Nat} {dv : Value} (h : Tab w g a L cap ls N dv) (hk : Kept S w w') (ha : Apart (g :: foot dv) S) : Tab w' g a L cap ls N dv :=
  ⟨h.1.kept hk (ha g (by simp)), h.2.1.kept hk (fun x hx => ha x (by simp [hx])), h.2.2⟩
theorem Tab.lt {w : World} {g : Nat} {a : Option Addr} {L cap : Nat} {ls : List Nat} {N : Nat} {dv : Value} (h : Tab w g a L cap ls N dv) : ∀ x ∈ g :: foot dv, x < w.heap.size := by
  intro x hx
  rcases List.mem_cons.1 hx with rfl | hx
  · exact h.1.lt
  · exact h.2.1.lt x hx
/-- In made's loop: lengths below n are laid. -/
def MadeI (w0 : World) (g : Nat) (a : Option Addr) (L cap : Nat) (ls : List Nat) (M : Nat) (k : Nat) (cv nv : Value) (w : World) : Prop :=
  ∃ n dv, 1 ≤ n ∧ n ≤ M + 1 ∧ k = M + 1 - n ∧ nv = .int .i64 (n : Nat) ∧ cv = .int .i64 (K.firstP ls (n - 1) + ls.count (n - 1) : Nat) ∧ Tab w g a L cap ls n dv ∧ Kept [] w0 w ∧ Fresh w0.heap.size (g :: foot dv)
/-- In the loop within: of i symbols those with length n are laid. -/
def MadeJ (w0 : World) (g : Nat) (a : Option Addr) (L cap : Nat) (ls : List Nat) (n : Nat) (k : Nat) (cv iv : Value) (w : World) : Prop :=
  ∃ i dv, i ≤ ls.length ∧ k = ls.length - i ∧ iv = .int .i64 (i : Nat) ∧ cv = .int .i64 (K.firstP ls n + (K.idxsTo ls n i).length : Nat) ∧
    Arr w g 79 (tabVals (.slice a L cap) dv (tabF ls (n + 1)) (tabB ls (n + 1)) ((tabC ls n).set n (K.idxsTo ls n i).length)) ∧
    Row w 3 dv (natVals (K.orderTo ls n ++ K.idxsTo ls n i)) ∧ g ∉ foot dv ∧ Kept [] w0 w ∧ Fresh w0.heap.size (g :: foot dv)
/-- What made leaves, where it makes a table. -/
def MadePost (a : Option Addr) (L cap : Nat) (ls : List Nat) (M : Nat) (w : World) (e : Ending) (w' : World) : Prop :=
  ∃ g dv, e = .returned (.tuple #[.pointer (some ⟨g, 0, none⟩), .int .i64 0]) ∧ Tab w' g a L cap ls (M + 1) dv ∧ Kept [] w w' ∧ Fresh w.heap.size (g :: foot dv)
theorem orderTo_len (ls : List Nat) (N : Nat) : (K.orderTo ls N).length ≤ N * ls.length := by
  induction N with
  | zero => simp [K.orderTo]
  | succ N ih =>
    rw [K.orderTo, List.length_append, K.idxs_length, Nat.succ_mul]
    have := List.count_le_length (a := N) (l := ls)
    omega

set_option maxRecDepth 100000 in
set_option maxHeartbeats 1000000 in
theorem made_ok (a : Option Addr) (cap : Nat) (xs : List Int) (w : World) (h : Sees w 1 a xs.length (intVals xs)) (hok : K.goodL xs = true) :
    Calls Try.prog 23 #[.slice a xs.length cap] w (MadePost a xs.length cap (K.natsOf xs) (maxL xs).toNat w) := by
  have hin := ((K.lensOk_iff xs).1 (K.goodL_lens hok)).2
  have hl := ((K.lensOk_iff xs).1 (K.goodL_lens hok)).1
  have hM0 := (maxL_ge xs).1
  have hM := maxL_le xs 20 (by decide) (fun x hx => (hin x hx).2)
  obtain ⟨M, hMM⟩ := Int.eq_ofNat_of_zero_le hM0
  have hR : checkR xs = 0 := by unfold checkR; rw [hok]; rfl
  obtain ⟨b0, off, rfl, -⟩ := h.at (by rw [intVals_length]; omega)
  have hfit := fun n hn => K.fits (K.natsOf xs) (fun x hx => (K.goodL_in hok x hx).2) (K.goodL_room hok) n hn
  have HS := Lib.hid h
  have HIN := Lib.hid hin
  have HFIT := Lib.hid hfit
  have HM := Lib.hid hMM
  have hM20 : M ≤ 20 := by omega
  have hz := Try.zTable
  clear h hin hM0 hfit hM
  go_enter Try.func23, Try.ntmps23
  go_wp2_with fail
  refine (check_any (some ⟨b0, off, none⟩) cap xs _ HS.out (by omega)).mono ?_
  rintro e w' ⟨rfl, rfl⟩
  rw [hR]
  clear hR hMM
  go_wp2_with fail
  rw [tab_new]
  have hA := Arr.new w (tabVals (.slice (some ⟨b0, off, none⟩) xs.length cap) (.slice none 0 0) z22 z22 z22) 79
  have hk0 : Kept [] w (w.alloc (.cells (tabVals (.slice (some ⟨b0, off, none⟩) xs.length cap) (.slice none 0 0) z22 z22 z22).toArray 79)) := (Kept.refl _ _).alloc _
  generalize w.alloc (.cells (tabVals (.slice (some ⟨b0, off, none⟩) xs.length cap) (.slice none 0 0) z22 z22 z22).toArray 79) = W0 at hA hk0 ⊢
  have hg0 : w.heap.size ≤ w.heap.size := Nat.le_refl _
  generalize hg : w.heap.size = g at hA hg0 ⊢
  have HG := Lib.hid hg
  have HA := Lib.hid hA
  have HK0 := Lib.hid hk0
  clear hz hg hA hk0 hg0
  obtain ⟨ls, hls⟩ : ∃ ls, K.natsOf xs = ls := ⟨_, rfl⟩
  have hll : ls.length = xs.length := by rw [← hls, K.natsOf_length]
  have hzc : ls.count 0 = 0 := by
    rw [List.count_eq_zero]
    intro h; rw [← hls] at h; have := (K.goodL_in hok 0 h).1; omega
  have HLS := Lib.hid hls
  have HLL := Lib.hid hll
  have HZC := Lib.hid hzc
  rw [hls] at HFIT ⊢
  clear hls hll hzc hok
  go_loopg [6, 7] M (fun k cv nv wr => MadeI w g (some ⟨b0, off, none⟩) xs.length cap ls M k cv nv wr)
  case atStart =>
    refine ⟨1, .slice none 0 0, Nat.le_refl _, by omega, by omega, rfl, by rw [show 1 - 1 = 0 from rfl, HZC.out]; rfl, ⟨?_, ?_, by simp [foot, Value.ownBlock]⟩, HK0.out, fun x hx => ?_⟩
    · unfold tabF tabB tabC; rw [tabUpto_one, tabUpto_one, tabUpto_one]; exact HA.out
    · have : K.orderTo ls 1 = [] := by
        rw [K.orderTo, K.orderTo, List.nil_append]
        exact List.eq_nil_of_length_eq_zero (by rw [K.idxs_length]; exact HZC.out)
      rw [this]; exact Row.nil _ _
    · simp [foot, Value.ownBlock] at hx
      rw [hx, HG.out]; exact Nat.le_refl _
  case round =>
    obtain ⟨n, dv, hn1, hn, hk, rfl, rfl, htab, hkept, hfr⟩ := hrel
    have Hk := Lib.hid hk
    have HT := Lib.hid htab
    have HKE := Lib.hid hkept
    have HFR := Lib.hid hfr
    have c0 := Tab.of htab.1
    clear hk htab hkept hfr
    go_wp2_with fail
    refine (longest_any (some ⟨b0, off, none⟩) cap xs _ (HS.out.kept0 HKE.out) (by omega)).mono ?_
    rintro e w2 ⟨rfl, hk2⟩
    have HT2 := Lib.hid (HT.out.kept hk2 (Apart.nil _))
    have HKE2 := Lib.hid (HKE.out.new hk2 (by simp [Fresh]))
    rw [HM.out]
    clear hk2 c0
    by_cases hlt : n ≤ M
    · have hni : (n : Int) ≤ (M : Int) := by omega
      have hfit1 := HFIT.out (n - 1) (by omega)
      have hp20 : 2 ^ (n - 1) ≤ 2 ^ 19 := Nat.pow_le_pow_right (by decide) (by omega)
      have hcode : K.firstP ls n = 2 * (K.firstP ls (n - 1) + ls.count (n - 1)) := by
        obtain ⟨m, rfl⟩ : ∃ m, n = m + 1 := ⟨n - 1, by omega⟩
        rw [Nat.add_sub_cancel, K.firstP]
      have hc19 : K.firstP ls (n - 1) + ls.count (n - 1) ≤ 524288 := Nat.le_trans hfit1 hp20
      obtain ⟨code, hcd⟩ : ∃ code, K.firstP ls (n - 1) + ls.count (n - 1) = code := ⟨_, rfl⟩
      rw [hcd] at hcode hc19 ⊢
      have HCODE := Lib.hid hcode
      have hshl : IntKind.i64.wrap ((code : Int) * 2) = ((2 * code : Nat) : Int) := by rw [IntWalk.i64_in _ (by omega)]; omega
      obtain ⟨av, cv, hv, -, -, -, -⟩ := HT2.out.2.1.sees
      rw [natVals_length] at hv
      subst hv
      have c1 := Tab.order HT2.out.1
      have cf := Tab.first HT2.out.1 n 0 (by unfold tabF; rw [tabUpto_get _ _ _ (by omega), if_neg (by omega)])
      have cb := Tab.begin HT2.out.1 (tabUpto_length _ _) n 0 (by unfold tabB; rw [tabUpto_get _ _ _ (by omega), if_neg (by omega)])
      have ff := HT2.out.1.free (2 + n)
      have fb := HT2.out.1.free (24 + n)
      have hn22 : (n : Int) < 22 := by omega
      have hol := orderTo_len ls n
      have hA1 := Tab.setFirst HT2.out.1 n (2 * code) (by unfold tabF; rw [tabUpto_length]; omega)
      have hA2 := Tab.setBegin hA1 (by rw [List.length_set]; exact tabUpto_length _ _) n (K.orderTo ls n).length (by unfold tabB; rw [tabUpto_length]; omega)
      have eF : (tabF ls n).set n (2 * code) = tabF ls (n + 1) := by rw [← hcode]; exact tabUpto_set _ n hn1 (by omega)
      have eB : (tabB ls n).set n (K.orderTo ls n).length = tabB ls (n + 1) := tabUpto_set (fun j => (K.orderTo ls j).length) n hn1 (by omega)
      rw [eF, eB, show ((2 * code : Nat) : Int) = 2 * (code : Int) by omega] at hA2
      have hkA : Kept [g] w2 ((w2.setCell ⟨g, 2 + n, none⟩ (.int .i64 (2 * (code : Int)))).setCell ⟨g, 24 + n, none⟩ (.int .i64 ((K.orderTo ls n).length : Int))).drew :=
        (((Kept.refl [g] w2).setCell (by simp) _).setCell (by simp) _).drew
      have HA2 := Lib.hid hA2
      have HKA := Lib.hid hkA
      clear hfit1 hp20 hcd hcode hA1 hA2 eF eB hkA
      go_wp2_with fail
      go_region
      have hA3 : Arr ((w2.setCell ⟨g, 2 + n, none⟩ (.int .i64 (2 * (code : Int)))).setCell ⟨g, 24 + n, none⟩ (.int .i64 ((K.orderTo ls n).length : Int))).drew g 79 (tabVals (.slice (some ⟨b0, off, none⟩) xs.length cap) (.slice av (K.orderTo ls n).length cv) (tabF ls (n + 1)) (tabB ls (n + 1)) (tabC ls n)) := HA2.out
      have hkA := HKA.out
      clear HA2 HKA c1 cf cb ff fb
      generalize ((w2.setCell ⟨g, 2 + n, none⟩ (.int .i64 (2 * (code : Int)))).setCell ⟨g, 24 + n, none⟩ (.int .i64 ((K.orderTo ls n).length : Int))).drew = W3 at hA3 hkA ⊢
      have HA3 := Lib.hid hA3
      have HROW3 := Lib.hid (HT2.out.2.1.kept hkA (fun x hx hm => HT2.out.2.2 (by rw [List.mem_singleton.1 hm] at hx; exact hx)))
      have HNG := Lib.hid HT2.out.2.2
      have HK3 := Lib.hid (HKE2.out.new hkA (fun x hx => by rw [List.mem_singleton.1 hx]; exact HFR.out g (by simp)))
      have c0 := Tab.of hA3
      clear hA3 hkA
      go_wp2_with fail
      go_loopg [6, 52] ls.length (fun k cv iv wr => MadeJ w g (some ⟨b0, off, none⟩) xs.length cap ls n k cv iv wr)
      case atStart =>
        refine ⟨0, _, by omega, by omega, rfl, ?_, ?_, ?_, HNG.out, HK3.out, HFR.out⟩
        · rw [K.idxsTo_zero, HCODE.out]; go_num
        · rw [K.idxsTo_zero]
          have e : (tabC ls n).set n 0 = tabC ls n := by
            apply List.ext_getElem?
            intro j
            rw [List.getElem?_set]
            split
            · rename_i hj
              subst hj
              unfold tabC
              rw [tabUpto_get _ _ _ (by omega), tabUpto_length, if_pos (by omega), if_neg (by omega)]
            · rfl
          rw [show (([] : List Nat)).length = 0 from rfl, e]
          exact HA3.out
        · rw [K.idxsTo_zero, List.append_nil]; exact HROW3.out
      case round =>
        obtain ⟨i, dv, hi, hk, rfl, rfl, hA, hrow, hng, hkept, hfr⟩ := hrel
        have Hk2 := Lib.hid hk
        obtain ⟨O, hO⟩ : ∃ O, K.orderTo ls n ++ K.idxsTo ls n i = O := ⟨_, rfl⟩
        rw [hO] at hrow
        have HO := Lib.hid hO
        have HA := Lib.hid hA
        have HROW := Lib.hid hrow
        have HNG2 := Lib.hid hng
        have HKE4 := Lib.hid hkept
        have HFR4 := Lib.hid hfr
        have hidl := K.idxsTo_length ls n i hi
        have hcl : (ls.take i).count n ≤ 258 := Nat.le_trans (List.count_le_length ..) (by rw [List.length_take]; have := HLL.out; omega)
        clear hk hA hrow hng hkept hfr c0 hO
        obtain ⟨av2, cv2, hv, -, -, -, -⟩ := HROW.out.sees
        rw [natVals_length] at hv
        subst hv
        by_cases hlt2 : i < xs.length
        · have hli : (i : Int) < (xs.length : Int) := by omega
          obtain ⟨x, hx⟩ : ∃ x, xs[i]? = some x := ⟨_, List.getElem?_eq_getElem hlt2⟩
          have hxin := HIN.out x (List.mem_of_getElem? hx)
          have c3 := (HS.out.kept0 HKE4.out).int hx
          obtain ⟨m, rfl⟩ := Int.eq_ofNat_of_zero_le (show 0 ≤ x by omega)
          have hlx : ls.getD i 0 = m := by
            rw [← HLS.out]; unfold K.natsOf
            rw [List.getD, List.getElem?_map, hx]; rfl
          clear hx hxin
          by_cases hmn : m = n
          · have hmi : (m : Int) = (n : Int) := by omega
            have c1 := Tab.order HA.out
            have f1 := HA.out.free 1
            have cc := Tab.count HA.out (tabUpto_length _ _) (tabUpto_length _ _) n (K.idxsTo ls n i).length (by rw [List.getElem?_set, if_pos rfl, if_pos (by unfold tabC; rw [tabUpto_length]; omega)])
            have fc := HA.out.free (46 + n)
            have hyes := K.idxsTo_yes ls n i (hlx.trans hmn)
            have hro := HROW.out
            have hoi := orderTo_len ls n
            have hxl : O.length ≤ 6000 := by
              rw [← HO.out, List.length_append]
              have := HLL.out
              have := Nat.mul_le_mul (show n ≤ 20 by omega) (show ls.length ≤ 258 by omega)
              omega
            have L1 : (natVals O).length + 1 ≤ maxLen := by rw [natVals_length]; simp only [maxLen]; omega
            have L2 : ((natVals O).length + 1) * 8 ≤ 140737488355328 := by rw [natVals_length]; omega
            have HY := Lib.hid hyes
            have hilen : (K.idxsTo ls n i).length ≤ 258 := by omega
            have hfl := HFIT.out n (by omega)
            have hfl2 : K.firstP ls n ≤ 1048576 := by
              have : 2 ^ n ≤ 2 ^ 20 := Nat.pow_le_pow_right (by decide) (by omega)
              have e : (2 : Nat) ^ 20 = 1048576 := rfl
              omega
            subst hmn
            clear hyes hoi hlx hidl hcl hfl
            go_wp2_with ((at_builtin; refine wp_appL _ rfl _ _ 22 rfl 3 (.int .i64 0) 8 Try.underlying22 Try.infoInt rfl _ _ [.int .i64 (i : Int)] 1 rfl rfl rfl rfl (by simp [Value.oneCell']) hro L1 L2 ?_; intro a5 cap5 w5 hrow5 hk5 hg5; have d1 := hk5.cellOf c1 HNG2.out; have e1 := (hk5.frozenOf c1 HNG2.out).trans f1; have dc := hk5.cellOf cc HNG2.out; have ec := (hk5.frozenOf cc HNG2.out).trans fc))
            go_region
            go_wp2_with fail
            go_roundg (ls.length - (i + 1))
            case measure => have := Hk2.out; have := HLL.out; omega
            case rel =>
              have hgw : g < wr.heap.size := HA.out.lt
              have hA5 := HA.out.kept hk5 HNG2.out
              have hA6 := Tab.setOrder hA5 (.slice a5 ((natVals O).length + 1) cap5)
              have hA7 := Tab.setCount hA6 (tabUpto_length _ _) (tabUpto_length _ _) m ((K.idxsTo ls m i).length + 1)
              have hng5 : g ∉ foot (.slice a5 ((natVals O).length + 1) cap5) := by
                intro hm
                rcases hg5 g hm with h | h
                · exact HNG2.out h
                · omega
              have hr7 : Row ((w5.setCell ⟨g, 1, none⟩ (.slice a5 ((natVals O).length + 1) cap5)).setCell ⟨g, 46 + m, none⟩ (.int .i64 ((((K.idxsTo ls m i).length + 1 : Nat)) : Int))).drew 3 (.slice a5 ((natVals O).length + 1) cap5) (natVals O ++ [.int .i64 (i : Int)]) :=
                hrow5.kept ((((Kept.refl [g] w5).setCell (by simp) _).setCell (by simp) _).drew) (fun x hx hm => hng5 (by rw [List.mem_singleton.1 hm] at hx; exact hx))
              have hfd : Fresh w.heap.size (foot (.slice av2 O.length cv2)) := fun x hx => HFR4.out x (by simp [hx])
              have hk7 : Kept [] w ((w5.setCell ⟨g, 1, none⟩ (.slice a5 ((natVals O).length + 1) cap5)).setCell ⟨g, 46 + m, none⟩ (.int .i64 ((((K.idxsTo ls m i).length + 1 : Nat)) : Int))).drew :=
                (((HKE4.out.new hk5 hfd).setCell (.inr (HFR4.out g (by simp))) _).setCell (.inr (HFR4.out g (by simp))) _).drew
              have hfr7 : Fresh w.heap.size (g :: foot (.slice a5 ((natVals O).length + 1) cap5)) := by
                intro x hx
                rcases List.mem_cons.1 hx with rfl | hx
                · exact HFR4.out _ (by simp)
                · exact (hfd.grow hg5 HKE4.out.size) x hx
              have e1 : (((K.idxsTo ls m i).length + 1 : Nat) : Int) = ((K.idxsTo ls m i).length : Int) + 1 := by omega
              rw [e1] at hA7 hr7 hk7
              refine ⟨i + 1, _, by have := HLL.out; omega, rfl, by go_num, ?_, ?_, ?_, hng5, hk7, hfr7⟩
              · rw [HY.out, List.length_append]; go_num
              · rw [HY.out, List.length_append, show [i].length = 1 from rfl]
                rw [List.set_set] at hA7
                exact hA7
              · rw [HY.out, ← List.append_assoc, HO.out, natVals_append]
                exact hr7
          · have hmi : ((m : Int) == (n : Int)) = false := by simp; omega
            have hmi2 : ¬ (m : Int) = (n : Int) := by omega
            have hno := K.idxsTo_no ls n i (by rw [hlx]; exact hmn)
            have HN := Lib.hid hno
            clear hno hlx hmn hidl hcl
            go_wp2_with fail
            go_roundg (ls.length - (i + 1))
            case measure => have := Hk2.out; have := HLL.out; omega
            case rel =>
              refine ⟨i + 1, _, by have := HLL.out; omega, rfl, by go_num, by rw [HN.out], ?_, ?_, HNG2.out, HKE4.out, HFR4.out⟩
              · rw [HN.out]; exact HA.out
              · rw [HN.out, HO.out]; exact HROW.out
        · have hie : i = ls.length := by have := HLL.out; omega
          have hid : (K.idxsTo ls n i).length = ls.count n := by rw [hidl, hie, List.take_length]
          have hA8 := HA.out
          rw [hid] at hA8
          have e8 : (tabC ls n).set n (ls.count n) = tabC ls (n + 1) := tabUpto_set (fun j => ls.count j) n hn1 (by omega)
          rw [e8] at hA8
          have e9 : K.orderTo ls (n + 1) = O := by rw [← HO.out, hie, K.orderTo]; rfl
          have hr8 : Row wr 3 (.slice av2 O.length cv2) (natVals (K.orderTo ls (n + 1))) := by rw [e9]; exact HROW.out
          have HA8 := Lib.hid hA8
          have HR8 := Lib.hid hr8
          have HID := Lib.hid hid
          clear hidl hcl hie hid hA8 hr8 e8 e9
          go_wp2_with fail
          go_roundg (M + 1 - (n + 1))
          case measure => have := Hk.out; omega
          case rel => exact ⟨n + 1, _, by omega, by omega, rfl, by go_num, by rw [Nat.add_sub_cancel, HID.out], ⟨HA8.out, HR8.out, HNG2.out⟩, HKE4.out, HFR4.out⟩
    · obtain rfl : n = M + 1 := by omega
      have hni : ¬ ((M + 1 : Nat) : Int) ≤ (M : Int) := by omega
      go_wp2_with fail
      go_ret2
      exact ⟨g, dv, rfl, by rw [HM.out, HLS.out, Int.toNat_natCast]; exact HT2.out, HKE2.out, HFR.out⟩
end Go.Proofs.Ytodjfgdolegfpaa
