/-
  The walk of kistref04.Cmp.
-/
import Derived.Test.YtaeppgooenbfiaaRotatePeriods
import Derived.Test.YtaeppgooenbfiaaRotJ
import Derived.Test.YtaeppgooenbfiaaPlainZ
namespace Go.Proofs.Ytaeppgooenbfiaa
open Go.RowKit
set_option linter.unusedVariables false
set_option linter.unusedSimpArgs false

theorem seg_same (l : List UInt8) (m i j : Nat) : K.seg (K.fB l) m i = K.seg (K.fB l) m j ↔ K.N (K.fS l) m i = K.N (K.fS l) m j := by
  constructor
  · intro h
    have h1 := K.seg_less (K.fB l) m i j
    have h2 := K.seg_less (K.fB l) m j i
    have h3 := K.seg_less (K.fB l) m j j
    rw [h, h3] at h1
    rw [h, h3] at h2
    have e1 : K.N (K.fS l) m j < K.N (K.fS l) m j ↔ K.N (K.fS l) m i < K.N (K.fS l) m j := decide_eq_decide.1 h1
    have e2 : K.N (K.fS l) m j < K.N (K.fS l) m j ↔ K.N (K.fS l) m j < K.N (K.fS l) m i := decide_eq_decide.1 h2
    omega
  · intro h
    have hs := bytes_same (K.fS l) (K.fS_lt l) i j m h
    apply List.ext_getElem?
    intro k
    by_cases hk : k < m
    · rw [K.seg_get _ _ _ _ hk, K.seg_get _ _ _ _ hk]
      exact congrArg some (UInt8.toNat_inj.1 (hs k hk))
    · rw [List.getElem?_eq_none (by rw [K.seg_length]; omega), List.getElem?_eq_none (by rw [K.seg_length]; omega)]

theorem rcmp_in (s : ByteArray) (i j : Nat) (w : World) (hs : s.size ≤ 1000000) (hi : i < s.size) (hj : j < s.size) : Calls Try.prog 23 #[.string s, .int .i64 i, .int .i64 j] w fun e w' =>
    e = .returned (.tuple #[.int .i64 (sgnR (K.fS s.data.toList) s.size i j), .int .i64 0]) ∧ Kept [] w w' := by
  have g1 : decide ((s.size : Int) ≤ (i : Int)) = false := by simp; omega
  have g2 : decide ((s.size : Int) ≤ (j : Int)) = false := by simp; omega
  have g1' : decide (s.size ≤ i) = false := by simp; omega
  have g2' : decide (s.size ≤ j) = false := by simp; omega
  go_enter Try.func23, Try.ntmps23
  go_wp2_with fail
  refine (rotation_ok s i _ (by omega) hs).mono ?_
  rintro e w1 ⟨rfl, hk1⟩
  have HK1 := Lib.hid hk1
  clear hk1
  go_wp2_with fail
  refine (rotation_ok s j _ (by omega) hs).mono ?_
  rintro e w2 ⟨rfl, hk2⟩
  have HK2 := Lib.hid (HK1.out.new hk2 (by simp [Fresh]))
  clear hk2
  have hl : s.data.toList.length = s.size := byte_len s
  have ha := rot_list s i (by omega)
  have hb := rot_list s j (by omega)
  rw [K.rot_seg s.data.toList i (by omega), hl] at ha
  rw [K.rot_seg s.data.toList j (by omega), hl] at hb
  have HA := Lib.hid ha
  have HB := Lib.hid hb
  clear ha hb
  generalize s.extract i s.size ++ s.extract 0 i = A at HA ⊢
  generalize s.extract j s.size ++ s.extract 0 j = B at HB ⊢
  have hless : Op.bytesLess A.toList B.toList = decide (K.N (K.fS s.data.toList) s.size i < K.N (K.fS s.data.toList) s.size j) := by rw [HA.out, HB.out]; exact K.seg_less _ _ _ _
  have heq : A.toList = B.toList ↔ K.N (K.fS s.data.toList) s.size i = K.N (K.fS s.data.toList) s.size j := by rw [HA.out, HB.out]; exact seg_same _ _ _ _
  have HL := Lib.hid hless
  have HE := Lib.hid heq
  clear hless heq
  go_wp2_with fail
  · have h1 := ‹Op.bytesLess A.toList B.toList = true›
    rw [HL.out] at h1
    go_ret2
    exact ⟨by unfold sgnR; rw [if_pos (of_decide_eq_true h1)]; rfl, HK2.out⟩
  · have h1 := ‹Op.bytesLess A.toList B.toList = false›
    have h2 := ‹(!A.toList == B.toList) = true›
    rw [HL.out] at h1
    have h3 : ¬ A.toList = B.toList := by simpa using h2
    rw [HE.out] at h3
    have h4 := of_decide_eq_false h1
    go_ret2
    exact ⟨by unfold sgnR; rw [if_neg h4, if_pos (by omega)]; rfl, HK2.out⟩
  · have h1 := ‹Op.bytesLess A.toList B.toList = false›
    have h2 := ‹(!A.toList == B.toList) = false›
    have h3 : A.toList = B.toList := by simpa using h2
    rw [HE.out] at h3
    go_ret2
    exact ⟨by unfold sgnR; rw [h3, if_neg (by omega), if_neg (by omega)]; rfl, HK2.out⟩

theorem rcmp_any (s : ByteArray) (i j : Int) (w : World) (hs : s.size ≤ 1000000) : Calls Try.prog 23 #[.string s, .int .i64 i, .int .i64 j] w fun e w' =>
    e = .returned (.tuple #[.int .i64 (cmpA s i j).1, .int .i64 ((cmpA s i j).2 : Nat)]) ∧ Kept [] w w' := by
  by_cases hin : i < 0 ∨ j < 0 ∨ (s.size : Int) ≤ i ∨ (s.size : Int) ≤ j
  · have hA : cmpA s i j = (0, 2) := by unfold cmpA; rw [if_pos hin]
    rw [hA]
    clear hA
    by_cases h1 : i < 0
    · have g1 : decide (i < 0) = true := decide_eq_true h1
      clear hin
      go_enter Try.func23, Try.ntmps23
      go_wp2_with fail
      go_ret2
      exact ⟨rfl, Kept.refl _ _⟩
    have g1 : decide (i < 0) = false := decide_eq_false h1
    by_cases h2 : j < 0
    · have g2 : decide (j < 0) = true := decide_eq_true h2
      clear hin
      go_enter Try.func23, Try.ntmps23
      go_wp2_with fail
      go_ret2
      exact ⟨rfl, Kept.refl _ _⟩
    have g2 : decide (j < 0) = false := decide_eq_false h2
    by_cases h3 : (s.size : Int) ≤ i
    · have g3 : decide ((s.size : Int) ≤ i) = true := decide_eq_true h3
      clear hin
      go_enter Try.func23, Try.ntmps23
      go_wp2_with fail
      go_ret2
      exact ⟨rfl, Kept.refl _ _⟩
    have g3 : decide ((s.size : Int) ≤ i) = false := decide_eq_false h3
    have h4 : (s.size : Int) ≤ j := by omega
    have g4 : decide ((s.size : Int) ≤ j) = true := decide_eq_true h4
    clear hin
    go_enter Try.func23, Try.ntmps23
    go_wp2_with fail
    go_ret2
    exact ⟨rfl, Kept.refl _ _⟩
  · obtain ⟨a, rfl⟩ := Int.eq_ofNat_of_zero_le (show 0 ≤ i by omega)
    obtain ⟨b, rfl⟩ := Int.eq_ofNat_of_zero_le (show 0 ≤ j by omega)
    have hA : cmpA s (a : Int) (b : Int) = (sgnR (K.fS s.data.toList) s.size a b, 0) := by unfold cmpA; rw [if_neg hin, Int.toNat_natCast, Int.toNat_natCast]
    rw [hA]
    exact rcmp_in s a b w hs (by omega) (by omega)
end Go.Proofs.Ytaeppgooenbfiaa
