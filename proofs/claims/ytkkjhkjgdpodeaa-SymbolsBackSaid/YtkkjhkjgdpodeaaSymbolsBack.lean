/-
  SymbolsBack: the walk.
-/
import Derived.Test.YtkkjhkjgdpodeaaAwakeS
import Derived.Test.YtkkjhkjgdpodeaaSymD
import Derived.Test.YtkkjhkjgdpodeaaSymE
import Derived.Test.YtkkjhkjgdpodeaaPlainT
import Derived.Test.YtkkjhkjgdpodeaaSymbolsZeros
namespace Go.Proofs.Ytkkjhkjgdpodeaa
open Go.RowKit
set_option linter.unusedVariables false
set_option linter.unusedSimpArgs false

set_option maxRecDepth 100000 in
set_option maxHeartbeats 1000000 in
theorem symbolsBack_walk (s t : ByteArray) (w : World) (hs : s.size ≤ 140737488351232) (ht : t.size ≤ 140737488351232) :
    Calls Try.prog 9 #[.string s, .string t] w fun e w' => e = .returned (.bool true) ∧ Kept [] w w' := by
  by_cases h : 5000 < s.size
  · have g1 : decide (5000 < (s.size : Int)) = true := by simp; omega
    go_enter Try.func9, Try.ntmps9
    go_wp2_with ((go_at_call 12; refine (awakeS _).mono ?_; rintro e w' ⟨rfl, hk⟩))
    go_ret
    exact ⟨rfl, by assumption⟩
  · have g1 : decide (5000 < (s.size : Int)) = false := by simp; omega
    by_cases h2 : 5000 < t.size
    · have g2 : decide (5000 < (t.size : Int)) = true := by simp; omega
      go_enter Try.func9, Try.ntmps9
      go_wp2_with ((go_at_call 12; refine (awakeS _).mono ?_; rintro e w' ⟨rfl, hk⟩))
      go_ret
      exact ⟨rfl, by assumption⟩
    · have g2 : decide (5000 < (t.size : Int)) = false := by simp; omega
      have hul := uses_length s.data.toList
      obtain ⟨U, hU⟩ : ∃ U : ByteArray, U = ⟨(K.uses s.data.toList).toArray⟩ := ⟨_, rfl⟩
      have hUl : U.data.toList = K.uses s.data.toList := by rw [hU]
      have hUs : U.size ≤ 256 := by rw [← byte_len, hUl]; exact hul
      have HU := Lib.hid hU
      have HUL := Lib.hid hUl
      clear hU hUl hul
      by_cases h0 : s.size = 0
      · have hnil : s.data.toList = [] := List.eq_nil_of_length_eq_zero (by rw [byte_len]; exact h0)
        have g3 : s.toList = [] := by rw [ByteArray.toList_eq]; exact hnil
        have g4 : s.toList.isEmpty = true := by rw [g3]; rfl
        have hUn : U.data.toList = [] := by rw [HUL.out, hnil]; decide +kernel
        have hR1 : K.frontR s.data.toList U.data.toList = ([], 2) := by rw [hUn]; unfold K.frontR; rw [K.mayS_nil]; rfl
        have hR2 : K.symR U.data.toList = ([], 0, 2) := by rw [hUn]; unfold K.symR; rw [K.mayS_nil]; rfl
        have HR1 := Lib.hid hR1
        have HR2 := Lib.hid hR2
        clear h0 hnil hUn hR1 hR2
        go_enter Try.func9, Try.ntmps9
        go_wp2_with fail
        refine (sof_any s _ hs).mono ?_
        rintro e w1 ⟨rfl, hk1⟩
        have HK1 := Lib.hid hk1
        rw [← HU.out]
        clear hk1
        go_wp2_with fail
        refine (sfront_any s U _ (by omega) (by omega)).mono ?_
        rintro e w2 hp
        rw [HR1.out] at hp
        obtain ⟨a2, c2, rfl, -, hk2, -⟩ := hp
        have HK2 := Lib.hid (HK1.out.new hk2 (by simp [Fresh]))
        clear hk2
        go_wp2_with fail
        refine (sshow_any U _ (by omega)).mono ?_
        rintro e w3 ⟨rfl, hk3⟩
        rw [HR2.out]
        unfold bitsV
        have HK3 := Lib.hid (HK2.out.new hk3 (by simp [Fresh]))
        clear hk3
        go_wp2_with ((go_at_call 12; refine (awakeS _).mono ?_; rintro e w' ⟨rfl, hk⟩))
        go_ret
        exact ⟨rfl, (HK3.out.alloc _).new (by assumption) (by simp [Fresh])⟩
      · have hne : s.data.toList ≠ [] := fun he => h0 (by rw [← byte_len, he]; rfl)
        have g3 : ¬ s.toList = [] := by rw [ByteArray.toList_eq]; exact hne
        have g4 : s.toList.isEmpty = false := by simpa using g3
        obtain ⟨l, hl, hR, hll⟩ := own_front s h0
        have hm := K.mayS_uses _ hne
        have hR1 : K.frontR s.data.toList U.data.toList = (l, 0) := by rw [HUL.out]; exact hR
        have hR2 : K.symR U.data.toList = (K.pack (K.symBits (K.uses s.data.toList)), (((K.symBits (K.uses s.data.toList)).length : Nat) : Int), 0) := by rw [HUL.out]; unfold K.symR; rw [hm]; rfl
        have hR3 : K.backR (l.map fun n : Nat => (n : Int)) U.data.toList = (s.data.toList, 0) := by
          rw [HUL.out]; unfold K.backR; rw [hm, if_pos rfl, K.back_front _ _ _ hl]
        have hu0 : K.uses s.data.toList ≠ [] := fun he => by
          have := K.mayS_uses _ hne
          rw [he] at this; exact absurd this (by decide)
        have hR4 := K.takeSR_back t.data.toList (K.uses s.data.toList) hu0 (K.uses_uses _)
        rw [byte_len] at hR4
        have hbl := K.symBits_length (K.uses s.data.toList)
        have hpl := K.pack_length (K.symBits (K.uses s.data.toList))
        generalize K.pack (K.symBits (K.uses s.data.toList)) = B at hR2 hR4 hpl
        generalize (K.symBits (K.uses s.data.toList)).length = N at hR2 hR4 hpl hbl
        have HR1 := Lib.hid hR1
        have HR2 := Lib.hid hR2
        have HR3 := Lib.hid hR3
        have HR4 := Lib.hid hR4
        have HLL := Lib.hid hll
        clear h0 hne hl hR hll hm hR1 hR2 hR3 hR4 hu0
        go_enter Try.func9, Try.ntmps9
        go_wp2_with fail
        refine (sof_any s _ hs).mono ?_
        rintro e w1 ⟨rfl, hk1⟩
        have HK1 := Lib.hid hk1
        rw [← HU.out]
        clear hk1
        go_wp2_with fail
        refine (sfront_any s U _ (by omega) (by omega)).mono ?_
        rintro e w2 hp
        rw [HR1.out] at hp
        obtain ⟨a2, c2, rfl, hrow2, hk2, -⟩ := hp
        have hrl : ((l, 0) : List Nat × Nat).1.length = s.size := HLL.out
        rw [hrl]
        have hsee2 := hrow2.seeA
        have HK2 := Lib.hid (HK1.out.new hk2 (by simp [Fresh]))
        have HSE := Lib.hid hsee2
        clear hk2 hrow2 hsee2 hrl
        go_wp2_with fail
        refine (sshow_any U _ (by omega)).mono ?_
        rintro e w3 ⟨rfl, hk3⟩
        rw [HR2.out]
        unfold bitsV
        have HK3 := Lib.hid (HK2.out.new hk3 (by simp [Fresh]))
        have HSE3 := Lib.hid (HSE.out.kept0 hk3)
        clear hk3
        go_wp2_with fail
        have hsb := (HSE3.out.kept0 ((Kept.refl [] w3).alloc (.cells #[.string ⟨B.toArray⟩, .int .i64 (N : Int)] 34)))
        rw [natVals_int] at hsb
        have hmx : (l.map fun n : Nat => (n : Int)).length = s.size := by rw [List.length_map]; exact HLL.out
        have hsb : Sees (w3.alloc (.cells #[.string ⟨B.toArray⟩, .int .i64 (N : Int)] 34)) 1 a2 (l.map fun n : Nat => (n : Int)).length (intVals (l.map fun n : Nat => (n : Int))) := by rw [hmx]; have := hsb; rw [show ((l, 0) : List Nat × Nat).1.length = s.size from HLL.out] at this; exact this
        have hcall := sback_any a2 c2 (l.map fun n : Nat => (n : Int)) U _ hsb (by rw [hmx]; omega) (by omega)
        rw [hmx] at hcall
        clear hsb hmx
        refine hcall.mono ?_
        rintro e w4 ⟨rfl, hk4⟩
        have hss : (⟨s.data.toList.toArray⟩ : ByteArray) = s := (ba_of s.data.toList s rfl).symm
        rw [HR3.out, hss]
        clear hss
        have hh := hk4.heap (heap_alloc_new w3 _) (by simp)
        have d0 : w4.cell? ⟨w3.heap.size, 0, none⟩ = _ := cell_of_row w4 w3.heap.size 0 _ _ _ hh
        have d1 : w4.cell? ⟨w3.heap.size, 1, none⟩ = _ := cell_of_row w4 w3.heap.size 1 _ _ _ hh
        simp at d0 d1
        have HK4 := Lib.hid ((HK3.out.alloc _).new hk4 (by simp [Fresh]))
        have hBs : (ByteArray.mk B.toArray).size ≤ 40 := by rw [ba_len]; omega
        clear hcall hk4 hh
        go_wp2_with fail
        have hSl : (t ++ (⟨B.toArray⟩ : ByteArray)).data.toList = t.data.toList ++ B := by simp
        have hSz : (t ++ (⟨B.toArray⟩ : ByteArray)).size ≤ 10000 := by rw [ba_size_append]; omega
        generalize t ++ (⟨B.toArray⟩ : ByteArray) = S at hSl hSz ⊢
        refine (stake_any S _ _ (by omega)).mono ?_
        rintro e w5 ⟨he, hk5⟩
        have hR4 := HR4.out
        rw [show ((8 * t.size : Nat) : Int) = 8 * (t.size : Int) by omega] at hR4
        rw [hSl, hR4] at he
        have he2 : e = .returned (.tuple #[.string U, .int .i64 (8 * (t.size : Int) + (N : Int)), .int .i64 0]) := by
          rw [he, HU.out]
          simp
        subst he2
        have d2 := hk5.cellOf d1 (by simp)
        have HK5 := Lib.hid (HK4.out.new hk5 (by simp [Fresh]))
        clear he hR4 hk5 d0 d1 hSl
        go_wp2_with ((go_at_call 12; refine (awakeS _).mono ?_; rintro e w' ⟨rfl, hk⟩))
        go_ret
        exact ⟨rfl, HK5.out.new (by assumption) (by simp [Fresh])⟩
end Go.Proofs.Ytkkjhkjgdpodeaa
