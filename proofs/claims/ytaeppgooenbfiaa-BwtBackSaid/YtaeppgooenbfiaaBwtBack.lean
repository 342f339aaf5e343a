/-
  BwtBack: the walk.
-/
import Derived.Test.YtaeppgooenbfiaaBwtD
namespace Go.Proofs.Ytaeppgooenbfiaa
open Go.RowKit Go.Sort
set_option linter.unusedVariables false
set_option linter.unusedSimpArgs false

set_option maxRecDepth 100000 in
set_option maxHeartbeats 1000000 in
theorem bwtBack_walk (s : ByteArray) (w : World) (hs : s.size ≤ 140737488351232) :
    Calls Try.prog 11 #[.string s] w fun e w' => e = .returned (.bool true) ∧ Kept [] w w' := by
  have hbl := byte_len s
  by_cases hz : s.size = 0
  · have g0 : s.toList = [] := by rw [ByteArray.toList_eq]; exact List.eq_nil_of_length_eq_zero (by omega)
    have g1 : s.toList.isEmpty = true := by rw [g0]; rfl
    clear hz hbl
    go_enter Try.func11, Try.ntmps11
    go_wp2_with ((go_at_call 24; refine (awakeB _).mono ?_; rintro e w' ⟨rfl, hk⟩))
    go_ret
    exact ⟨rfl, by assumption⟩
  · have h0 : 0 < s.size := by omega
    have g1 : s.toList.isEmpty = false := by
      rw [ByteArray.toList_eq]
      cases h : s.data.toList with
      | nil => rw [h] at hbl; simp at hbl; omega
      | cons a b => rfl
    clear hz
    by_cases h5 : 5000 < s.size
    · have g2 : decide (5000 < (s.size : Int)) = true := by simp; omega
      clear hbl
      go_enter Try.func11, Try.ntmps11
      go_wp2_with ((go_at_call 24; refine (awakeB _).mono ?_; rintro e w' ⟨rfl, hk⟩))
      go_ret
      exact ⟨rfl, by assumption⟩
    · have g2 : decide (5000 < (s.size : Int)) = false := by simp; omega
      have hfw := forward_in s w h0 (by omega) (sort_any s.size (by omega))
      have HFW := Lib.hid hfw
      clear hbl hfw
      go_enter Try.func11, Try.ntmps11
      go_wp2_with fail
      refine HFW.out.mono ?_
      rintro e w1 ⟨L, hO, rfl, hk1⟩
      obtain ⟨hr1, hr2⟩ := idx_row hO 0 h0
      have hbk := back_last s L h0 (by omega) hO (L.idxOf 0) hr1
      rw [hr2, List.drop_zero, List.take_zero, List.append_nil] at hbk
      have hl : (toB (K.lastC s.size (K.fS s.data.toList) L)).length = s.size := by rw [toB, List.length_map, K.lastC, List.length_map, hO.len]
      have hsz := mk_size (toB (K.lastC s.size (K.fS s.data.toList) L))
      rw [hl] at hsz
      obtain ⟨r, hr⟩ : ∃ r, L.idxOf 0 = r := ⟨_, rfl⟩
      rw [hr] at hr1 hbk ⊢
      generalize ByteArray.mk (toB (K.lastC s.size (K.fS s.data.toList) L)).toArray = t at hbk hsz ⊢
      have hba := fun w => back_any t r w (by omega)
      rw [hbk] at hba
      have HBA := Lib.hid hba
      have HK1 := Lib.hid hk1
      have hszi : (t.size : Int) = (s.size : Int) := by omega
      have hri : (r : Int) < (s.size : Int) := by omega
      clear hO hr1 hr2 hbk hl hsz hr hba hk1 HFW
      go_wp2_with fail
      refine (HBA.out _).mono ?_
      rintro e w2 ⟨rfl, hk2⟩
      have HK2 := Lib.hid (HK1.out.new hk2 (by simp [Fresh]))
      rw [show (s.data.toList, (0 : Nat)).1 = s.data.toList from rfl, mk_self]
      clear hk2
      go_wp2_with ((go_at_call 24; refine (awakeB _).mono ?_; rintro e w' ⟨rfl, hk⟩))
      go_ret
      exact ⟨rfl, HK2.out.new (by assumption) (by simp [Fresh])⟩
end Go.Proofs.Ytaeppgooenbfiaa
