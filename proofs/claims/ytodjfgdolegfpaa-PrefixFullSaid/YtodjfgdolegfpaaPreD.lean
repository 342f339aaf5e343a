/-
  The walks of prefix's Codes and Encode.
-/
import Derived.Test.YtodjfgdolegfpaaPreC
import Derived.Test.YtodjfgdolegfpaaPlainA
import Derived.Test.YtodjfgdolegfpaaSlice
namespace Go.Proofs.Ytodjfgdolegfpaa
open Go.RowKit
set_option linter.unusedVariables false
set_option linter.unusedSimpArgs false

theorem pcodes_any (a : Option Addr) (cap : Nat) (xs : List Int) (w : World) (h : Sees w 1 a xs.length (intVals xs)) (hlen : xs.length ≤ 140737488351232) :
    Calls Try.prog 10 #[.slice a xs.length cap] w (NatsPost (K.codesR xs) w) := by
  have HS := Lib.hid h
  clear h
  rcases Bool.eq_false_or_eq_true (K.goodL xs) with hok | hok
  · have hR : K.codesR xs = (K.codesP (K.natsOf xs), 0) := by unfold K.codesR; rw [hok]; rfl
    have HR := Lib.hid hR
    have HOK := Lib.hid hok
    clear hR hok
    go_enter Try.func10, Try.ntmps10
    go_wp2_with fail
    refine (made_ok a cap xs _ HS.out HOK.out).mono ?_
    rintro e w1 ⟨g, dv, rfl, ht, hk1, hf1⟩
    have HK1 := Lib.hid hk1
    have HT := Lib.hid ht
    clear hk1 ht hf1
    go_wp2_with fail
    refine (codes_ok g a cap xs dv _ (HS.out.kept0 HK1.out) HOK.out HT.out).mono ?_
    rintro e w2 ⟨h, rfl, hrow, hk2, hh⟩
    have HK2 := Lib.hid (HK1.out.new hk2 (by simp [Fresh]))
    have hln : (K.codesP (K.natsOf xs)).length = xs.length := by rw [K.codesP_length, K.natsOf_length]
    have hge : w.heap.size ≤ h := Nat.le_trans HK1.out.size hh
    rw [← hln] at hrow ⊢
    have HROW := Lib.hid hrow
    clear hk2 hrow hln
    go_wp2_with fail
    go_ret2
    rw [HR.out]
    exact NatsPost.ok (by rfl) HROW.out HK2.out (by intro x hx; simp [foot, Value.ownBlock] at hx; omega)
  · have hR : K.codesR xs = ([], 80) := by unfold K.codesR; rw [hok]; rfl
    have HR := Lib.hid hR
    go_enter Try.func10, Try.ntmps10
    go_wp2_with fail
    refine (made_err a cap xs _ HS.out hlen hok).mono ?_
    rintro e w' ⟨rfl, rfl⟩
    clear hR hok
    go_wp2_with fail
    go_ret2
    rw [HR.out]
    exact NatsPost.err (by rfl) (Kept.refl _ _)

/-- In Encode's loop: i symbols are told. -/
def PEncI (w0 : World) (ls : List Nat) (list : List Int) (b h : Nat) (k : Nat) (c : Value) (w : World) : Prop :=
  ∃ i o B, i ≤ list.length ∧ k = list.length - i ∧ c = .int .i64 (i : Nat) ∧ Wr w b o B ∧ B.length ≤ 20 * i ∧ K.encP ls list = (K.encP ls (list.drop i)).map (B ++ ·) ∧
    Row w 3 (.slice (some ⟨h, 0, none⟩) ls.length ls.length) (natVals (K.codesP ls)) ∧ Apart [h] (b :: foot o) ∧ Kept [] w0 w ∧ Fresh w0.heap.size (b :: foot o)

set_option maxRecDepth 100000 in
set_option maxHeartbeats 1000000 in
theorem pencode_any (a a2 : Option Addr) (cap cap2 : Nat) (xs list : List Int) (w : World) (h : Sees w 1 a xs.length (intVals xs)) (hlen : xs.length ≤ 140737488351232)
    (h2 : Sees w 1 a2 list.length (intVals list)) (hlist : list.length ≤ 10000000) :
    Calls Try.prog 14 #[.slice a xs.length cap, .slice a2 list.length cap2] w fun e w' => e = .returned (bitsV (K.encR xs list)) ∧ Kept [] w w' := by
  have HS := Lib.hid h
  have HS2 := Lib.hid h2
  clear h h2
  go_enter Try.func14, Try.ntmps14
  go_wp2_with fail
  have hc0 : (w.alloc (.cells #[.string ⟨#[]⟩, .int .i64 0] 32)).heap[w.heap.size]? = some (.cells #[.string ⟨#[]⟩, .int .i64 0] 32 (0, 0)) := heap_alloc_new _ _
  have hkW : Kept [] w (w.alloc (.cells #[.string ⟨#[]⟩, .int .i64 0] 32)) := (Kept.refl _ _).alloc _
  generalize w.alloc (.cells #[.string ⟨#[]⟩, .int .i64 0] 32) = W0 at hc0 hkW ⊢
  have HC0 := Lib.hid hc0
  have HKW := Lib.hid hkW
  clear hc0 hkW
  rcases Bool.eq_false_or_eq_true (K.goodL xs) with hok | hok
  · have HOK := Lib.hid hok
    clear hok
    refine (made_ok a cap xs _ (HS.out.kept0 HKW.out) HOK.out).mono ?_
    rintro e w1 ⟨g, dv, rfl, ht, hk1, hf1⟩
    have HK1 := Lib.hid hk1
    have HT := Lib.hid ht
    clear hk1 ht hf1
    go_wp2_with fail
    refine (codes_ok g a cap xs dv _ (HS.out.kept0 (HKW.out.new HK1.out (by simp [Fresh]))) HOK.out HT.out).mono ?_
    rintro e w2 ⟨h, rfl, hrow, hk2, hh⟩
    have HK2 := Lib.hid (HK1.out.new hk2 (by simp [Fresh]))
    have HROW2 := Lib.hid hrow
    have hhlt := hrow.blk.lt
    clear hk2 hrow
    go_wp2_with fail
    refine (newWriter_new _).mono ?_
    rintro e w3 ⟨b, rfl, hw3, hk3, hb3⟩
    have HK3 := Lib.hid (HK2.out.new hk3 (by simp [Fresh]))
    have hll : (K.natsOf xs).length = xs.length := K.natsOf_length xs
    have hrow3 : Row w3 3 (.slice (some ⟨h, 0, none⟩) (K.natsOf xs).length (K.natsOf xs).length) (natVals (K.codesP (K.natsOf xs))) := by rw [hll]; exact HROW2.out.kept hk3 (by simp)
    have hap : Apart [h] (b :: foot (.slice none 0 0)) := fun x hx hm => by
      rw [List.mem_singleton.1 hx] at hm
      have := hb3 h hm
      omega
    have hfr3 : Fresh W0.heap.size (b :: foot (.slice none 0 0)) := hb3.mono HK2.out.size
    have HR3 := Lib.hid hrow3
    have HW3 := Lib.hid hw3
    have HAP := Lib.hid hap
    have HFR := Lib.hid hfr3
    have hgd := K.goodL_in HOK.out
    have hfit := K.code_lt (K.natsOf xs) (fun x hx => (hgd x hx).2) (K.goodL_room HOK.out)
    obtain ⟨ls, hls⟩ : ∃ ls, K.natsOf xs = ls := ⟨_, rfl⟩
    have hget : ∀ i x, xs[i]? = some x → x = ((ls.getD i 0 : Nat) : Int) := by
      intro i x hx
      have := ((K.lensOk_iff xs).1 (K.goodL_lens HOK.out)).2 x (List.mem_of_getElem? hx)
      rw [← hls]; unfold K.natsOf
      rw [List.getD, List.getElem?_map, hx]
      simp; omega
    rw [hls] at HR3 hgd hfit hll
    have HLS := Lib.hid hls
    have HLL := Lib.hid hll
    have HGD := Lib.hid hgd
    have HFIT := Lib.hid hfit
    have HGET := Lib.hid hget
    clear hw3 hk3 hb3 hrow3 hap hfr3 hgd hfit hls hll hget
    go_wp2_with fail
    go_loopg [26] list.length (fun k c wr => PEncI W0 ls list b h k c wr)
    case atStart => exact ⟨0, _, [], by omega, by omega, rfl, HW3.out, by simp, by simp, HR3.out, HAP.out, HK3.out, HFR.out⟩
    case round =>
      obtain ⟨i, o, B, hi, hk, rfl, hwr, hBl, henc, hrow, hap, hkept, hfr⟩ := hrel
      have Hk := Lib.hid hk
      have HWR := Lib.hid hwr
      have HENC := Lib.hid henc
      have HROW := Lib.hid hrow
      have HAP2 := Lib.hid hap
      have HKE := Lib.hid hkept
      have HFR2 := Lib.hid hfr
      clear hk hwr henc hrow hap hkept hfr
      by_cases hlt : i < list.length
      · have hli : (i : Int) < (list.length : Int) := by omega
        obtain ⟨s, hs⟩ : ∃ s, list[i]? = some s := ⟨_, List.getElem?_eq_getElem hlt⟩
        have hdr : list.drop i = s :: list.drop (i + 1) := by
          obtain ⟨h1, rfl⟩ := List.getElem?_eq_some_iff.1 hs
          exact List.drop_eq_getElem_cons h1
        obtain ⟨b1, o1, rfl, -⟩ := HS2.out.at (by rw [intVals_length]; omega)
        have c0 := (HS2.out.kept0 (HKW.out.new HKE.out (by simp [Fresh]))).int hs
        have HDR := Lib.hid hdr
        clear hs hdr
        by_cases hbad : s < 0 ∨ (xs.length : Int) ≤ s
        · have hnone : K.encR xs list = ([], 0, 60) := by
            refine K.encR_none _ _ HOK.out ?_
            rw [HLS.out, HENC.out, HDR.out, K.encP_none _ _ _ (by rw [HLL.out]; exact hbad)]; rfl
          have HNN := Lib.hid hnone
          have hh := HKE.out.heap HC0.out (by simp)
          have d0 : wr.cell? ⟨w.heap.size, 0, none⟩ = _ := cell_of_row wr w.heap.size 0 _ _ _ hh
          have d1 : wr.cell? ⟨w.heap.size, 1, none⟩ = _ := cell_of_row wr w.heap.size 1 _ _ _ hh
          have f0 := frozen_of_row wr w.heap.size 0 _ _ hh
          have f1 := frozen_of_row wr w.heap.size 1 _ _ hh
          simp at d0 d1
          have HKK := Lib.hid (HKW.out.new HKE.out (by simp [Fresh]))
          clear hnone hh
          rcases hbad with hb | hb
          · have g1 : decide (s < 0) = true := decide_eq_true hb
            go_wp2_with fail
            rw [HNN.out]
            refine bodyPost_ret (v := bitsV ([], 0, 60)) (by simp [results, Try.results14, go_sem, d0, d1, bitsV]) rfl ⟨rfl, ?_⟩
            exact (HKK.out.setCell (.inr (Nat.le_refl _)) _).setCell (.inr (Nat.le_refl _)) _
          · have g1 : decide (s < 0) = false := decide_eq_false (by omega)
            have g2 : decide ((xs.length : Int) ≤ s) = true := decide_eq_true hb
            go_wp2_with fail
            rw [HNN.out]
            refine bodyPost_ret (v := bitsV ([], 0, 60)) (by simp [results, Try.results14, go_sem, d0, d1, bitsV]) rfl ⟨rfl, ?_⟩
            exact (HKK.out.setCell (.inr (Nat.le_refl _)) _).setCell (.inr (Nat.le_refl _)) _
        · have g1 : decide (s < 0) = false := decide_eq_false (by omega)
          have g2 : decide ((xs.length : Int) ≤ s) = false := decide_eq_false (by omega)
          obtain ⟨q, rfl⟩ := Int.eq_ofNat_of_zero_le (show 0 ≤ s by omega)
          have hql : q < xs.length := by omega
          have hqli : (q : Int) < (xs.length : Int) := by omega
          have hqls : q < ls.length := by rw [HLL.out]; exact hql
          obtain ⟨x, hx⟩ : ∃ x, xs[q]? = some x := ⟨_, List.getElem?_eq_getElem hql⟩
          obtain ⟨b0, o0, rfl, -⟩ := HS.out.at (by rw [intVals_length]; omega)
          have c1 := (HS.out.kept0 (HKW.out.new HKE.out (by simp [Fresh]))).int hx
          have hxe := HGET.out q x hx
          obtain ⟨n, hn⟩ : ∃ n, ls.getD q 0 = n := ⟨_, rfl⟩
          rw [hn] at hxe
          subst hxe
          have hn20 : n ≤ 20 := by
            have hm : ls.getD q 0 ∈ ls := by rw [List.getD, List.getElem?_eq_getElem hqls]; exact List.getElem_mem hqls
            have := (HGD.out _ hm).2
            omega
          have c2 := HROW.out.cellAt (nat_get _ q _ (K.codesP_get ls q hqls))
          have hcl := HFIT.out q hqls
          rw [hn] at hcl
          have hsy : K.symP ls q = K.low (K.codeP ls q) n := by unfold K.symP; rw [hn]
          have hp20 : 2 ^ n ≤ 2 ^ 20 := Nat.pow_le_pow_right (by decide) hn20
          obtain ⟨c, hc⟩ : ∃ c, K.codeP ls q = c := ⟨_, rfl⟩
          rw [hc] at c2 hcl hsy
          have hc20 : c < 1048576 := by
            have e : (2 : Nat) ^ 20 = 1048576 := rfl
            omega
          have hcw : IntKind.u64.wrap (c : Int) = (c : Int) := by rw [IntKind.wrap_u64]; omega
          have HSY := Lib.hid hsy
          have HCL := Lib.hid hcl
          have HBL := Lib.hid (show B.length ≤ 1000000000000 by omega)
          have hbb : ¬ (((q : Nat) : Int) < 0 ∨ (ls.length : Int) ≤ (q : Int)) := by omega
          have HBB := Lib.hid hbb
          have hne0 : b0 ∉ b :: foot o := fun hm => by
            have h1 := HFR2.out b0 hm
            have h2 := HS.out.lt (by rw [intVals_length]; omega) b0 (by simp [footA])
            have h3 := HKW.out.size
            omega
          have hneh : h ∉ b :: foot o := HAP2.out h (by simp)
          have HNE0 := Lib.hid hne0
          have HNEH := Lib.hid hneh
          clear hx hn hsy hp20 hc hcl hbad hbb hne0 hneh
          go_wp2_with fail
          go_region_held3 (fun w' => w'.cell? ⟨h, q, none⟩ = some (.int .i64 (c : Int)) ∧ w'.cell? ⟨b0, o0 + q, none⟩ = some (.int .i64 (n : Int))) (first | exact ⟨c2, c1⟩ | exact ⟨hk5.cellOf c2 HNEH.out, hk5.cellOf c1 HNE0.out⟩)
            (first | (go_at_call 29; refine (put_put b c n _ _ _ (by omega) (by omega) (by omega) (by simpa using HCL.out) HBL.out (by exact HWR.out)).mono ?_; rintro e w5 ⟨rfl, o5, hw5, hk5, hg5⟩))
          have hk5 : Kept (b :: foot o) wr w5 := (Kept.refl (b :: foot o) wr).drew.trans hk5 (fun x hx => .inl hx)
          have hw5 : Wr w5 b o5 (B ++ K.symP ls q) := by rw [HSY.out]; simpa using hw5
          have hke5 := HKE.out.new hk5 HFR2.out
          have hfr5 := HFR2.out.grow hg5 HKE.out.size
          have hap5 : Apart [h] (b :: foot o5) := fun x hx hm => by
            rcases hg5 x hm with h' | h'
            · exact HAP2.out x hx h'
            · rw [List.mem_singleton.1 hx] at h'
              have := HROW.out.blk.lt
              have h'' : wr.heap.size ≤ h := h'
              omega
          have hrow5 := HROW.out.kept hk5 (fun x hx hm => HAP2.out x (by simpa [foot, Value.ownBlock] using hx) hm)
          have hB5 : (B ++ K.symP ls q).length ≤ 20 * (i + 1) := by
            rw [List.length_append, HSY.out, K.low_length]; omega
          have hen5 : K.encP ls list = (K.encP ls (list.drop (i + 1))).map (B ++ K.symP ls q ++ ·) := by
            rw [HENC.out, HDR.out, K.encP_cons _ _ _ HBB.out, Int.toNat_natCast, K.map_map_app]
          clear hk5 hg5 c0 c1 c2
          go_wp2_with fail
          go_roundg (list.length - (i + 1))
          case measure => have := Hk.out; omega
          case rel => exact ⟨i + 1, o5, _, by omega, rfl, by go_num, hw5, hB5, hen5, hrow5, hap5, hke5, hfr5⟩
      · obtain rfl : i = list.length := by omega
        have hen : K.encP ls list = some B := by
          rw [HENC.out, List.drop_length]; simp [K.encP]
        have hyes := K.encR_some xs list B HOK.out (by rw [HLS.out]; exact hen)
        have HY := Lib.hid hyes
        have hwr := HWR.out
        have hh := HKE.out.heap HC0.out (by simp)
        have d0 : wr.cell? ⟨w.heap.size, 0, none⟩ = _ := cell_of_row wr w.heap.size 0 _ _ _ hh
        have d1 : wr.cell? ⟨w.heap.size, 1, none⟩ = _ := cell_of_row wr w.heap.size 1 _ _ _ hh
        have f0 := frozen_of_row wr w.heap.size 0 _ _ hh
        have f1 := frozen_of_row wr w.heap.size 1 _ _ hh
        simp at d0 d1
        have HKK := Lib.hid (HKW.out.new HKE.out (by simp [Fresh]))
        clear hh hen hyes
        go_wp2_with fail
        refine (text_ok _ _ _ _ hwr).mono ?_
        rintro e w' ⟨rfl, rfl⟩
        go_wp2_with fail
        refine (len_ok _ _ _ _ hwr).mono ?_
        rintro e w' ⟨rfl, rfl⟩
        go_wp2_with fail
        rw [HY.out]
        refine bodyPost_ret (v := bitsV (K.pack B, ((B.length : Nat) : Int), 0)) (by simp [results, Try.results14, go_sem, d0, d1, bitsV]) rfl ⟨rfl, ?_⟩
        exact (HKK.out.setCell (.inr (Nat.le_refl _)) _).setCell (.inr (Nat.le_refl _)) _
  · have hno : K.encR xs list = ([], 0, 80) := K.encR_bad _ _ hok
    have HNO := Lib.hid hno
    refine (made_err a cap xs _ (HS.out.kept0 HKW.out) hlen hok).mono ?_
    rintro e w' ⟨rfl, rfl⟩
    have hh := HC0.out
    have d0 : W0.cell? ⟨w.heap.size, 0, none⟩ = _ := cell_of_row W0 w.heap.size 0 _ _ _ hh
    have d1 : W0.cell? ⟨w.heap.size, 1, none⟩ = _ := cell_of_row W0 w.heap.size 1 _ _ _ hh
    have f0 := frozen_of_row W0 w.heap.size 0 _ _ hh
    have f1 := frozen_of_row W0 w.heap.size 1 _ _ hh
    simp at d0 d1
    clear hno hh hok
    go_wp2_with fail
    rw [HNO.out]
    refine bodyPost_ret (v := bitsV ([], 0, 80)) (by simp [results, Try.results14, go_sem, d0, d1, bitsV]) rfl ⟨rfl, ?_⟩
    exact (HKW.out.setCell (.inr (Nat.le_refl _)) _).setCell (.inr (Nat.le_refl _)) _
end Go.Proofs.Ytodjfgdolegfpaa
