/-
  DeltaBack: the walk.
-/
import Derived.Test.YtickefjlkpdifaaAwakeD
import Derived.Test.YtickefjlkpdifaaPlainK
import Derived.Test.YtickefjlkpdifaaDeltaTakes
namespace Go.Proofs.Ytickefjlkpdifaa
open Go.RowKit
set_option linter.unusedVariables false
set_option linter.unusedSimpArgs false

set_option maxHeartbeats 1000000 in
theorem deltaBack_walk (a : Option Addr) (len cap : Nat) (xs : List Int) (s1 s2 : ByteArray) (w : World)
    (h : Sees w 1 a len (xs.map (Value.int .i64)) ∧ xs.length = len ∧ len ≤ cap ∧ cap ≤ maxLen ∧ len ≤ 140737488351232 ∧ ∀ x ∈ xs, -9223372036854775808 ≤ x ∧ x ≤ 9223372036854775807)
    (hz1 : s1.size ≤ 140737488351232) (hz2 : s2.size ≤ 140737488351232) :
    Calls Try.prog 12 #[.slice a len cap, .string s1, .string s2] w fun e w' => e = .returned (.bool true) ∧ Kept [] w w' := by
  obtain ⟨h, rfl, -, -, hlen, -⟩ := h
  have h : Sees w 1 a xs.length (intVals xs) := h
  have HS := Lib.hid h
  clear h
  have hws : IntKind.i64.wrap ((s1.size : Int) + (s2.size : Int)) = (s1.size : Int) + (s2.size : Int) := IntWalk.i64_in _ (by omega)
  by_cases hbig : 5000 < s1.size + s2.size
  · have g1 : decide ((5000 : Int) < (s1.size : Int) + (s2.size : Int)) = true := by simp; omega
    go_enter Try.func12, Try.ntmps12
    go_wp2_with ((go_at_call 36; refine (awakeD _).mono ?_; rintro e w' ⟨rfl, hk⟩))
    go_ret
    exact ⟨rfl, by assumption⟩
  · have g1 : decide ((5000 : Int) < (s1.size : Int) + (s2.size : Int)) = false := by simp; omega
    go_enter Try.func12, Try.ntmps12
    go_wp2_with fail
    refine (dshow_any a cap xs _ HS.out hlen).mono ?_
    rintro e w1 ⟨rfl, hk1⟩
    have HK1 := Lib.hid hk1
    clear hk1
    rcases Bool.eq_false_or_eq_true (K.lensOk xs) with hok | hok
    · have hsr : K.showR xs = (K.pack (K.showBits xs), (((K.showBits xs).length : Nat) : Int), 0) := by unfold K.showR; rw [hok]; rfl
      rw [hsr]
      have hsb := K.showBits_len xs hok
      have hpl := K.pack_length (K.showBits xs)
      have hbk := K.lensR_back xs hok s1.data.toList s2.data.toList
      rw [toList_length] at hbk
      generalize K.pack (K.showBits xs) = B at hpl hbk ⊢
      generalize (K.showBits xs).length = N at hsb hpl hbk ⊢
      have HBK := Lib.hid hbk
      have HOK := Lib.hid hok
      have hw8 : IntKind.i64.wrap (8 * (s1.size : Int)) = 8 * (s1.size : Int) := IntWalk.i64_in _ (by omega)
      have hw9 : IntKind.i64.wrap (8 * (s1.size : Int) + (N : Int)) = 8 * (s1.size : Int) + (N : Int) := IntWalk.i64_in _ (by omega)
      clear hsr hbk hok g1 hws
      unfold bitsV
      go_wp2_with fail
      have hSl : (s1 ++ (⟨B.toArray⟩ : ByteArray) ++ s2).data.toList = s1.data.toList ++ B ++ s2.data.toList := by simp [ByteArray.data_append]
      generalize s1 ++ (⟨B.toArray⟩ : ByteArray) ++ s2 = S at hSl ⊢
      have hSz : S.size ≤ 100000 := by
        rw [← toList_length, hSl, List.length_append, List.length_append, toList_length, toList_length]
        omega
      refine (dtake_any S _ _ _ (by omega)).mono ?_
      rintro e w2 hp
      have hbk := HBK.out
      rw [show ((8 * s1.size : Nat) : Int) = 8 * (s1.size : Int) by omega] at hbk
      rw [hSl, hbk] at hp
      obtain ⟨a2, c2, rfl, hrow, hk2, -⟩ := hp
      have hs2 := hrow.see.1
      have hA := hk2.heap (heap_alloc_new w1 _) (by simp)
      have d1 : w2.cell? ⟨w1.heap.size, 1, none⟩ = _ := cell_of_row w2 w1.heap.size 1 _ _ _ hA
      simp at d1
      have HK2 := Lib.hid ((HK1.out.alloc _).new hk2 (by simp [Fresh]))
      clear hk2 hA hrow hSl hbk
      go_wp2_with fail
      refine (ints_ok a2 a c2 cap xs xs _ hs2 (HS.out.kept0 HK2.out) hlen).mono ?_
      rintro e w3 ⟨rfl, hk3⟩
      have d2 := hk3.cellOf d1 (by simp)
      have HK3 := Lib.hid (HK2.out.new hk3 (by simp [Fresh]))
      clear hk3 d1 hs2
      go_wp2_with ((go_at_call 36; refine (awakeD _).mono ?_; rintro e w' ⟨rfl, hk⟩))
      go_ret
      exact ⟨rfl, HK3.out.new ‹_› (by simp [Fresh])⟩
    · have hsr : K.showR xs = ([], 0, 80) := by unfold K.showR; rw [hok]; rfl
      rw [hsr]
      unfold bitsV
      have heq := fun W => eqBits_same ⟨#[]⟩ 0 W
      clear hsr g1 hws
      go_wp2_with ((go_at_call 36; refine (awakeD _).mono ?_; rintro e w' ⟨rfl, hk⟩))
      go_ret
      exact ⟨rfl, (HK1.out.alloc _).new ‹_› (by simp [Fresh])⟩
end Go.Proofs.Ytickefjlkpdifaa
