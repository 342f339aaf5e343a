/-
  The walk of the reference's Join.
-/
import Derived.Test.YtickefjlkpdifaaJoin
import Derived.Test.YtickefjlkpdifaaLibC
import Derived.Deep.RegionHeld3
namespace Go.Proofs.Ytickefjlkpdifaa
open Go.RowKit
set_option linter.unusedVariables false
set_option linter.unusedSimpArgs false

/-- In the reference's Join: j pieces are joined. -/
def RJoinI (w0 : World) (qs : List (List UInt8 × Int)) (k : Nat) (v c : Value) (w : World) : Prop :=
  ∃ j, j ≤ qs.length ∧ k = qs.length - j ∧ c = .int .i64 (j : Nat) ∧ ((qs.take j).all fun p => K.mayR p.1 p.2) = true ∧ Row w 3 v (bis (K.joinBits (qs.take j))) ∧ Kept [] w0 w ∧ Fresh w0.heap.size (foot v)

theorem of_part {w : World} {s : List UInt8} {e : TypeId} {ao : Option Addr} {co n L : Nat} (hrow : Row w e (.slice ao L co) (bis (K.bitsOf s))) (hL : L = 8 * s.length) (hn : n ≤ L) :
    Sees w 1 ao n (bis (K.oneJoin (s, (n : Int)))) ∧ (ao = none → co = 0) := by
  constructor
  · obtain ⟨a, c, hv, -, -, hsee, -⟩ := hrow.sees
    injection hv with h1 h2 h3
    subst h1
    have := hsee.part 0 n (by omega) (a' := ao) (fun _ b off h => by rw [h]; rfl)
    have e1 : ((bis (K.bitsOf s)).drop 0).take n = bis (K.oneJoin (s, (n : Int))) := by simp [bis, K.oneJoin, List.map_take]
    rw [← e1]
    exact this
  · intro hn0
    rcases hrow.2 with ⟨h, -⟩ | ⟨g, cap, cur, h, -⟩
    · injection h
    · rw [hn0] at h; injection h with h; cases h

set_option maxHeartbeats 1000000 in
theorem refJoin_any (a : Option Addr) (cap : Nat) (ps : List (ByteArray × Int)) (w : World) (h : Sees w 2 a ps.length (bitsVals ps)) (hT : K.total (plainPs ps) ≤ 1000000) (hlen : ps.length ≤ 140737488351232) :
    Calls Try.prog 33 #[.slice a ps.length cap] w fun e w' => e = .returned (bitsV (K.joinR (plainPs ps))) ∧ Kept [] w w' := by
  have hql : (plainPs ps).length = ps.length := by simp [plainPs]
  have HQL := Lib.hid hql
  have HS := Lib.hid h
  clear h hql
  go_enter Try.func33, Try.ntmps33
  go_wp2_with fail
  have hc0 : (w.alloc (.cells #[.string ⟨#[]⟩, .int .i64 0] 55)).heap[w.heap.size]? = some (.cells #[.string ⟨#[]⟩, .int .i64 0] 55 (0, 0)) := heap_alloc_new _ _
  have hkW : Kept [] w (w.alloc (.cells #[.string ⟨#[]⟩, .int .i64 0] 55)) := (Kept.refl _ _).alloc _
  have hzW : (w.alloc (.cells #[.string ⟨#[]⟩, .int .i64 0] 55)).heap.size = w.heap.size + 1 := by simp
  generalize w.alloc (.cells #[.string ⟨#[]⟩, .int .i64 0] 55) = W0 at hc0 hkW hzW ⊢
  have HC0 := Lib.hid hc0
  have HKW := Lib.hid hkW
  have HZW := Lib.hid hzW
  clear hc0 hkW hzW
  go_loopg [4, 5] ps.length (fun k v c wr => RJoinI W0 (plainPs ps) k v c wr)
  case atStart => exact ⟨0, by omega, by rw [HQL.out]; omega, rfl, rfl, Row.nil _ _, Kept.refl _ _, by simp [Fresh, foot, Value.ownBlock]⟩
  case round =>

    obtain ⟨j, hj, hk, rfl, hall, hrow, hkept, hfr⟩ := hrel
    rw [HQL.out] at hj hk
    have Hk := Lib.hid hk
    have HALL := Lib.hid hall
    clear hk hall
    by_cases hlt : j < ps.length
    · have hsr := HS.out.kept0 (HKW.out.new hkept (by simp [Fresh]))
      obtain ⟨b0, off, rfl, hcells⟩ := hsr.at (by rw [bitsVals_length]; omega)
      obtain ⟨⟨t, N⟩, hpj⟩ : ∃ p, ps[j]? = some p := ⟨_, List.getElem?_eq_getElem hlt⟩
      have c0 := hcells _ _ (bitsVals_get ps j _ hpj).1
      have c1 := hcells _ _ (bitsVals_get ps j _ hpj).2
      rw [← Nat.add_assoc] at c1
      have hjl : (j : Int) < (ps.length : Int) := by omega
      have hb0 : b0 < W0.heap.size := by
        obtain ⟨b', off', he', hc'⟩ := HS.out.2 _ _ (bitsVals_get ps j _ hpj).1
        injection he' with he'; injection he' with he'
        subst he'
        exact Nat.lt_of_lt_of_le (World.block_lt_of_cell? w _ hc') HKW.out.size
      have hbf : b0 ∉ foot u4 := fun hx => by have := hfr _ hx; omega
      have HBF := Lib.hid hbf
      have hqj := plainPs_get ps j _ hpj
      have htl := K.total_get _ _ _ hqj
      simp only [toList_length] at htl
      have hts : t.size ≤ 1000000 := by omega
      have HQJ := Lib.hid hqj
      have HROW := Lib.hid hrow
      have HKE := Lib.hid hkept
      have HFR := Lib.hid hfr
      clear hcells hsr hpj hqj htl hrow hkept hfr hb0 hbf
      go_wp2_with fail
      refine (refMay_any t N _ (by omega)).mono ?_
      rintro e w2 ⟨rfl, hk2⟩
      have d0 := hk2.cellOf c0 (by simp)
      have d1 := hk2.cellOf c1 (by simp)
      have HK2 := Lib.hid hk2
      clear hk2 c0 c1
      rcases Bool.eq_false_or_eq_true (K.mayR t.data.toList N) with hM | hM
      · rw [hM]
        have hrg := K.mayR_range _ _ hM
        rw [toList_length] at hrg
        obtain ⟨n, rfl⟩ := Int.eq_ofNat_of_zero_le hrg.1
        have hn : n ≤ 8 * t.size := by omega
        have HM := Lib.hid hM
        have hrow2 := HROW.out.kept HK2.out (by simp)
        have HR2 := Lib.hid hrow2
        have hbl := K.joinBits_len ((plainPs ps).take j)
        have hbt := K.total_take (plainPs ps) j
        have hb8 : (bis (K.joinBits ((plainPs ps).take j))).length ≤ 8000000 := by rw [bis_length]; omega
        have L1 : (bis (K.joinBits ((plainPs ps).take j))).length + n ≤ maxLen := by simp only [maxLen]; omega
        have L2 : ((bis (K.joinBits ((plainPs ps).take j))).length + n) * 8 ≤ 140737488355328 := by omega
        have hone : ∀ u ∈ bis (K.oneJoin (t.data.toList, (n : Int))), u.oneCell' = true := by
          intro u hu
          obtain ⟨c, -, rfl⟩ := List.mem_map.1 hu
          rfl
        have hnl : (n : Int) ≤ 8 * (t.size : Int) := by omega
        have hLs : 8 * t.data.toList.length = 8 * t.size := by rw [toList_length]
        have HLS := Lib.hid hLs
        clear hM hrg hrow2 hbl hbt hLs
        go_wp2_with fail
        go_region_held3 (fun w' => w'.cell? ⟨b0, off + j * 2, none⟩ = some (.string t) ∧ w'.cell? ⟨b0, off + j * 2 + 1, none⟩ = some (.int .i64 n)) (first | exact ⟨d0, d1⟩ | exact ⟨hk3.cellOf d0 (by simp), hk3.cellOf d1 (by simp)⟩ | exact ⟨hk4.cellOf (hk3.cellOf d0 (by simp)) HBF.out, hk4.cellOf (hk3.cellOf d1 (by simp)) HBF.out⟩)
          (first
            | (refine step_appS rfl _ _ 26 rfl 3 (.int .i64 0) 8 Try.underlying26 Try.infoInt rfl u4 _ (bis (K.oneJoin (t.data.toList, (n : Int)))) ao n co rfl rfl hone HR3.out HPT.out.1 HPT.out.2 L1 L2 ?_; intro a4 cap4 w4 hrow4 hk4 hg4)
            | (go_at_call 23; refine (refOf_ok _ _ (by omega)).mono ?_; rintro e w3 ⟨ao, co, rfl, hrow3, hk3, hf3, hco, hcm⟩; have hpt := of_part (n := n) hrow3 rfl (by rw [HLS.out]; exact hn); have HPT := Lib.hid hpt; have hk3 : Kept [] w2 w3 := (Kept.refl [] w2).drew.trans hk3 (by simp); have hrw3 := HR2.out.kept hk3 (by simp); have HR3 := Lib.hid hrw3; rw [HLS.out]; rw [HLS.out] at hco; clear hpt hrw3 hrow3; have hnc : (n : Int) ≤ (co : Int) := (by omega)))
        go_wp2_with fail
        go_roundg (ps.length - (j + 1))
        case measure => have := Hk.out; omega
        case rel =>
          refine ⟨j + 1, by rw [HQL.out]; omega, by rw [HQL.out], by go_num, ?_, ?_, ?_, ?_⟩
          · rw [K.all_take _ _ _ _ HQJ.out, HALL.out]; exact HM.out
          · rw [K.joinBits_take _ _ _ HQJ.out, bis_append]; exact hrow4
          · exact ((HKE.out.new HK2.out (by simp [Fresh])).new hk3 (by simp [Fresh])).new hk4 HFR.out
          · exact HFR.out.grow hg4 (Nat.le_trans HKE.out.size (Nat.le_trans HK2.out.size hk3.size))
      · rw [hM]
        have hno := K.joinR_no _ _ _ HQJ.out hM
        have HNO := Lib.hid hno
        have hh := HK2.out.heap (HKE.out.heap HC0.out (by simp)) (by simp)
        have c0 : w2.cell? ⟨w.heap.size, 0, none⟩ = _ := cell_of_row w2 w.heap.size 0 _ _ _ hh
        have c1 : w2.cell? ⟨w.heap.size, 1, none⟩ = _ := cell_of_row w2 w.heap.size 1 _ _ _ hh
        have f0 := frozen_of_row w2 w.heap.size 0 _ _ hh
        have f1 := frozen_of_row w2 w.heap.size 1 _ _ hh
        simp at c0 c1
        clear hM hno hh d0 d1
        go_wp2_with fail
        rw [HNO.out]
        refine bodyPost_ret (v := bitsV ([], 0, 2)) (by simp [results, Try.results33, go_sem, c0, c1, bitsV]) rfl ⟨rfl, ?_⟩
        exact ((HKW.out.new HKE.out (by simp [Fresh])).new HK2.out (by simp [Fresh])).setCell (.inr (Nat.le_refl _)) _ |>.setCell (.inr (Nat.le_refl _)) _
    · obtain rfl : j = ps.length := by omega
      have hte : (plainPs ps).take ps.length = plainPs ps := List.take_of_length_le (by rw [HQL.out]; omega)
      rw [hte] at hrow HALL
      have hyes : K.joinR (plainPs ps) = (K.pack (K.joinBits (plainPs ps)), (((K.joinBits (plainPs ps)).length : Nat) : Int), 0) := by unfold K.joinR; rw [HALL.out]; rfl
      have HY := Lib.hid hyes
      obtain ⟨ae, ce, hv, -, -, hsee, -⟩ := hrow.sees
      rw [bis_length] at hv hsee
      subst hv
      have hbl := K.joinBits_len (plainPs ps)
      have HKT := Lib.hid hkept
      clear hyes hte hkept hrow hfr
      go_wp2_with fail
      refine (refText_ok _ _ _ _ (by omega) hsee).mono ?_
      rintro e w2 ⟨rfl, hk2⟩
      have hh := hk2.heap (HKT.out.heap HC0.out (by simp)) (by simp)
      have c0 : w2.cell? ⟨w.heap.size, 0, none⟩ = _ := cell_of_row w2 w.heap.size 0 _ _ _ hh
      have c1 : w2.cell? ⟨w.heap.size, 1, none⟩ = _ := cell_of_row w2 w.heap.size 1 _ _ _ hh
      have f0 := frozen_of_row w2 w.heap.size 0 _ _ hh
      have f1 := frozen_of_row w2 w.heap.size 1 _ _ hh
      simp at c0 c1
      have HK2 := Lib.hid ((HKW.out.new HKT.out (by simp [Fresh])).new hk2 (by simp [Fresh]))
      clear hh hk2
      go_wp2_with fail
      rw [HY.out]
      refine bodyPost_ret (v := bitsV (K.pack (K.joinBits (plainPs ps)), (((K.joinBits (plainPs ps)).length : Nat) : Int), 0)) (by simp [results, Try.results33, go_sem, c0, c1, bitsV]) rfl ⟨rfl, ?_⟩
      exact (HK2.out.setCell (.inr (Nat.le_refl _)) _).setCell (.inr (Nat.le_refl _)) _
end Go.Proofs.Ytickefjlkpdifaa
