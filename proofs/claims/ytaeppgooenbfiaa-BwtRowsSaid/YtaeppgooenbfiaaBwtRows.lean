/-
  BwtRows: the walk.
-/
import Derived.Test.YtaeppgooenbfiaaBwtD
import Derived.Deep.RegionHeld3
namespace Go.Proofs.Ytaeppgooenbfiaa
open Go.RowKit Go.Sort
set_option linter.unusedVariables false
set_option linter.unusedSimpArgs false

set_option maxRecDepth 100000 in
set_option maxHeartbeats 1000000 in
theorem bwtRows_walk (s : ByteArray) (i : Int) (w : World) (hs : s.size ≤ 140737488351232) (hi : -9223372036854775808 ≤ i ∧ i ≤ 9223372036854775807) :
    Calls Try.prog 12 #[.string s, .int .i64 i] w fun e w' => e = .returned (.bool true) ∧ Kept [] w w' := by
  clear hi
  have key : (decide (2000 < (s.size : Int)) = true) ∨ (decide (2000 < (s.size : Int)) = false ∧ decide (i < 0) = true) ∨ (decide (2000 < (s.size : Int)) = false ∧ decide (i < 0) = false ∧ decide ((s.size : Int) ≤ i) = true) ∨
      (decide (2000 < (s.size : Int)) = false ∧ decide (i < 0) = false ∧ decide ((s.size : Int) ≤ i) = false) := by simp; omega
  rcases key with g1 | ⟨g1, g2⟩ | ⟨g1, g2, g3⟩ | ⟨g1, g2, g3⟩
  · go_enter Try.func12, Try.ntmps12
    go_wp2_with ((go_at_call 24; refine (awakeB _).mono ?_; rintro e w' ⟨rfl, hk⟩))
    go_ret
    exact ⟨rfl, by assumption⟩
  · go_enter Try.func12, Try.ntmps12
    go_wp2_with ((go_at_call 24; refine (awakeB _).mono ?_; rintro e w' ⟨rfl, hk⟩))
    go_ret
    exact ⟨rfl, by assumption⟩
  · go_enter Try.func12, Try.ntmps12
    go_wp2_with ((go_at_call 24; refine (awakeB _).mono ?_; rintro e w' ⟨rfl, hk⟩))
    go_ret
    exact ⟨rfl, by assumption⟩
  · have b2 : ¬ i < 0 := of_decide_eq_false g2
    have b3 : ¬ (s.size : Int) ≤ i := of_decide_eq_false g3
    have b1 : ¬ 2000 < (s.size : Int) := of_decide_eq_false g1
    obtain ⟨row, rfl⟩ := Int.eq_ofNat_of_zero_le (show 0 ≤ i by omega)
    have hrow : row < s.size := by omega
    have hs2 : s.size ≤ 2000 := by omega
    have h0 : 0 < s.size := by omega
    have hri : (row : Int) < (s.size : Int) := by omega
    have hfw := forward_in s w h0 (by omega) (sort_any s.size (by omega))
    have hord := fun w => order_new s w (by omega) (sort_any s.size (by omega))
    have HFW := Lib.hid hfw
    have HORD := Lib.hid hord
    clear hfw hord b1 b2 b3
    go_enter Try.func12, Try.ntmps12
    go_wp2_with fail
    refine HFW.out.mono ?_
    rintro e w1 ⟨L, hO, rfl, hk1⟩
    have hbk := back_last s L h0 (by omega) hO row hrow
    have hl : (toB (K.lastC s.size (K.fS s.data.toList) L)).length = s.size := by rw [toB, List.length_map, K.lastC, List.length_map, hO.len]
    have hsz := mk_size (toB (K.lastC s.size (K.fS s.data.toList) L))
    rw [hl] at hsz
    obtain ⟨r, hr⟩ : ∃ r, L.idxOf 0 = r := ⟨_, rfl⟩
    obtain ⟨x, hxd⟩ : ∃ x, L.getD row 0 = x := ⟨_, rfl⟩
    rw [hxd] at hbk
    rw [hr]
    generalize ByteArray.mk (toB (K.lastC s.size (K.fS s.data.toList) L)).toArray = t at hbk hsz ⊢
    have hba := fun w => back_any t row w (by omega)
    rw [hbk] at hba
    have hx : L[row]? = some x := by rw [← hxd, List.getD, List.getElem?_eq_getElem (by rw [hO.len]; exact hrow)]; rfl
    have hxl : x < s.size := hO.lt x (List.mem_of_getElem? hx)
    have HBA := Lib.hid hba
    have HX := Lib.hid hx
    have HO := Lib.hid hO
    have HK1 := Lib.hid hk1
    clear hO hbk hl hsz hr hxd hba hk1 HFW hx
    go_wp2_with fail
    refine (HORD.out _).mono ?_
    rintro e w2 ⟨g, L2, rfl, hO2, hrow2, hk2, -⟩
    obtain rfl := HO.out.one hO2
    have HS2 := Lib.hid hrow2.seeA
    have HK2 := Lib.hid (HK1.out.new hk2 (by simp [Fresh]))
    clear hO2 hrow2 hk2 HORD
    go_wp2_with fail
    refine (HBA.out _).mono ?_
    rintro e w3 ⟨rfl, hk3⟩
    have HK3 := Lib.hid (HK2.out.new hk3 (by simp [Fresh]))
    have c0 := (HS2.out.kept0 hk3).natC HX.out
    rw [Nat.zero_add] at c0
    have hrl := rot_list s x (by omega)
    have hml : (ByteArray.mk (s.data.toList.drop x ++ s.data.toList.take x).toArray).toList = s.data.toList.drop x ++ s.data.toList.take x := by rw [ByteArray.toList_eq, mk_list]
    have heq : ((ByteArray.mk (s.data.toList.drop x ++ s.data.toList.take x).toArray).toList == (s.extract x s.size ++ s.extract 0 x).toList) = true := by rw [hrl, hml]; simp
    have hadd : ∀ W : World, (Op.stringOp .add (s.extract x s.size) (s.extract 0 x)).run Try.prog W = .ok (.string (s.extract x s.size ++ s.extract 0 x)) W := fun W =>
      run_string_add_sum _ _ _ (by rw [ByteArray.size_extract, ByteArray.size_extract]; omega)
    have hxi : (x : Int) < (s.size : Int) := by omega
    have hxi2 : (x : Int) ≤ (s.size : Int) := by omega
    clear hk3 hrl hml HBA HX HO
    simp only []
    generalize ByteArray.mk (s.data.toList.drop x ++ s.data.toList.take x).toArray = u at heq ⊢
    go_wp2_with fail
    go_region_held3 (fun w' => Kept [] w3 w' ∧ w'.cell? ⟨g, row, none⟩ = some (.int .i64 (x : Int)))
      (first | exact ⟨Kept.refl _ _, c0⟩ | exact ⟨(Kept.refl _ _).drew, c0⟩ | exact ⟨hk4, hk4.cellOf c0 (by simp)⟩)
      (first | (go_at_call 24; refine (awakeB _).mono ?_; rintro e w4 ⟨rfl, hk4'⟩; have hk4 : Kept [] w3 w4 := (Kept.refl [] w3).drew.trans hk4' (by simp)))
    go_wp2_with fail
    go_ret
    exact ⟨rfl, HK3.out.new hk4 (by simp [Fresh])⟩
end Go.Proofs.Ytaeppgooenbfiaa
