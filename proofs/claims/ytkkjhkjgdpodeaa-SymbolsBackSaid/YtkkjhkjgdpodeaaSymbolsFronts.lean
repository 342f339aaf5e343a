/-
  SymbolsFronts: the walk.
-/
import Derived.Test.YtkkjhkjgdpodeaaAwakeS
import Derived.Test.YtkkjhkjgdpodeaaSymE
namespace Go.Proofs.Ytkkjhkjgdpodeaa
open Go.RowKit
set_option linter.unusedVariables false
set_option linter.unusedSimpArgs false

theorem Row.seeA {w : World} {e : TypeId} {a : Option Addr} {n c : Nat} {xs : List Value} (h : Row w e (.slice a n c) xs) : Sees w 1 a n xs := by
  have hl := h.len
  obtain ⟨a', c', hv, -, -, hsee, -⟩ := h.sees
  injection hv with h1 h2 h3
  subst h1
  rw [hl] at hsee
  exact hsee
theorem symbolsFronts_walk (s t : ByteArray) (w : World) (hs : s.size ≤ 140737488351232) (ht : t.size ≤ 140737488351232) :
    Calls Try.prog 4 #[.string s, .string t] w fun e w' => e = .returned (.bool true) ∧ Kept [] w w' := by
  by_cases h : 1000 < s.size
  · have g1 : decide (1000 < (s.size : Int)) = true := by simp; omega
    go_enter Try.func4, Try.ntmps4
    go_wp2_with ((go_at_call 12; refine (awakeS _).mono ?_; rintro e w' ⟨rfl, hk⟩))
    go_ret
    exact ⟨rfl, by assumption⟩
  · have g1 : decide (1000 < (s.size : Int)) = false := by simp; omega
    by_cases h2 : 1000 < t.size
    · have g2 : decide (1000 < (t.size : Int)) = true := by simp; omega
      go_enter Try.func4, Try.ntmps4
      go_wp2_with ((go_at_call 12; refine (awakeS _).mono ?_; rintro e w' ⟨rfl, hk⟩))
      go_ret
      exact ⟨rfl, by assumption⟩
    · have g2 : decide (1000 < (t.size : Int)) = false := by simp; omega
      go_enter Try.func4, Try.ntmps4
      go_wp2_with fail
      refine (sfront_any s t _ (by omega) (by omega)).mono ?_
      rintro e w1 ⟨a1, c1, rfl, hrow1, hk1, -⟩
      have HK1 := Lib.hid hk1
      have HROW1 := Lib.hid hrow1
      clear hk1 hrow1
      go_wp2_with fail
      refine (rfront_any s t _ (by omega) (by omega)).mono ?_
      rintro e w2 ⟨a2, c2, rfl, hrow2, hk2, -⟩
      have HK2 := Lib.hid (HK1.out.new hk2 (by simp [Fresh]))
      have hsee1 := (HROW1.out.kept hk2 (by simp)).seeA
      have hsee2 := hrow2.seeA
      have hll : (K.frontR s.data.toList t.data.toList).1.length ≤ 1000000 := by
        unfold K.frontR
        split
        · split
          · simp
          · rename_i l hl
            show l.length ≤ 1000000
            rw [K.front_length _ _ _ hl, byte_len]; omega
        · simp
      rw [natVals_int] at hsee1 hsee2
      have hle : (K.frontR s.data.toList t.data.toList).1.length = ((K.frontR s.data.toList t.data.toList).1.map fun n : Nat => (n : Int)).length := by simp
      have HLL := Lib.hid hll
      rw [hle] at hsee1 hsee2 ⊢
      have HS1 := Lib.hid hsee1
      have HS2 := Lib.hid hsee2
      clear hk2 hrow2 hsee1 hsee2 hll hle
      generalize hxs : ((K.frontR s.data.toList t.data.toList).1.map fun n : Nat => (n : Int)) = xs at HS1 HS2 ⊢
      have hxl : xs.length ≤ 1000000 := by rw [← hxs, List.length_map]; exact HLL.out
      generalize (K.frontR s.data.toList t.data.toList).2 = er
      clear hxs HLL
      go_wp2_with fail
      refine (ints_ok a1 a2 c1 c2 xs xs _ HS1.out HS2.out (by omega)).mono ?_
      rintro e w3 ⟨rfl, hk3⟩
      have HK3 := Lib.hid (HK2.out.new hk3 (by simp [Fresh]))
      clear hk3
      have hdt : decide (xs = xs) = true := by simp
      rw [hdt]
      clear hdt
      go_wp2_with ((go_at_call 12; refine (awakeS _).mono ?_; rintro e w' ⟨rfl, hk⟩))
      go_ret
      exact ⟨rfl, HK3.out.new (by assumption) (by simp [Fresh])⟩
end Go.Proofs.Ytkkjhkjgdpodeaa
