/-
  PrefixFull: the walk.
-/
import Derived.Test.YtodjfgdolegfpaaAwakeP
import Derived.Test.YtodjfgdolegfpaaPlainA
import Derived.Test.YtodjfgdolegfpaaLenM
namespace Go.Proofs.Ytodjfgdolegfpaa
open Go.RowKit
set_option linter.unusedVariables false
set_option linter.unusedSimpArgs false

set_option maxRecDepth 100000 in
set_option maxHeartbeats 1000000 in
theorem prefixFull_walk (a : Option Addr) (len cap : Nat) (xs : List Int) (s : ByteArray) (at_ : Int) (w : World)
    (h : Sees w 1 a len (xs.map (Value.int .i64)) ∧ xs.length = len ∧ len ≤ cap ∧ cap ≤ maxLen ∧ len ≤ 17592186043904 ∧ (∀ x ∈ xs, -9223372036854775808 ≤ x ∧ x ≤ 9223372036854775807) ∧ (a = none → cap = 0))
    (hs : s.size ≤ 140737488351232) (hat : -9223372036854775808 ≤ at_ ∧ at_ ≤ 9223372036854775807) :
    Calls Try.prog 9 #[.slice a len cap, .string s, .int .i64 at_] w fun e w' => e = .returned (.bool true) ∧ Kept [] w w' := by
  obtain ⟨hsee, rfl, -, -, hlen, -, -⟩ := h
  have hsee : Sees w 1 a xs.length (intVals xs) := hsee
  obtain ⟨p, hp⟩ := make_ans xs 17
  have M := wmake_any a cap xs 17 p w hsee (by omega) hp
  have HP := Lib.hid hp
  clear hsee
  rcases hp with ⟨-, rfl⟩ | ⟨h1, h2, h3⟩
  · go_enter Try.func9, Try.ntmps9
    go_wp2_with fail
    refine M.mono ?_
    rintro e w1 ⟨a1, c1, rfl, hrow1, hk1, -⟩
    clear M hrow1
    go_wp2_with fail
    refine (awakeP _).mono ?_
    rintro e w2 ⟨rfl, hk2⟩
    go_wp2_with fail
    go_ret
    exact ⟨rfl, hk1.new hk2 (by simp [Fresh])⟩
  · obtain ⟨h5, k1, k2, k3⟩ := MakeAns.ok HP.out h2
    have hx258 := (mayL_get h5).2.1
    obtain ⟨ls, er⟩ := p
    simp only at h2 k1 k2 k3
    subst h2
    have HLE := Lib.hid k2
    have HL := Lib.hid k1
    obtain ⟨hgood, hroom, hnat⟩ := full_good k3
    have HGOOD := Lib.hid hgood
    have HROOM := Lib.hid hroom
    have HNAT := Lib.hid hnat
    clear h1 h3 h5 k1 k2 k3 HP hgood hroom hnat
    by_cases h1 : at_ < 0
    · have g1 : decide (at_ < 0) = true := decide_eq_true h1
      go_enter Try.func9, Try.ntmps9
      go_wp2_with fail
      refine M.mono ?_
      rintro e w1 ⟨a1, c1, rfl, hrow1, hk1, -⟩
      clear M hrow1
      go_wp2_with fail
      refine (awakeP _).mono ?_
      rintro e w2 ⟨rfl, hk2⟩
      go_wp2_with fail
      go_ret
      exact ⟨rfl, hk1.new hk2 (by simp [Fresh])⟩
    have g1 : decide (at_ < 0) = false := decide_eq_false h1
    obtain ⟨at_, rfl⟩ := Int.eq_ofNat_of_zero_le (show 0 ≤ at_ by omega)
    by_cases h2 : 8 * s.size < at_
    · have g2 : decide (8 * (s.size : Int) < (at_ : Int)) = true := by simp; omega
      go_enter Try.func9, Try.ntmps9
      go_wp2_with fail
      refine M.mono ?_
      rintro e w1 ⟨a1, c1, rfl, hrow1, hk1, -⟩
      clear M hrow1
      go_wp2_with fail
      refine (awakeP _).mono ?_
      rintro e w2 ⟨rfl, hk2⟩
      go_wp2_with fail
      go_ret
      exact ⟨rfl, hk1.new hk2 (by simp [Fresh])⟩
    have g2 : decide (8 * (s.size : Int) < (at_ : Int)) = false := by simp; omega
    have hab : at_ ≤ 1125899906809856 := by omega
    have hD := K.decR_full (l := ls.map fun n : Nat => (n : Int)) (most := 17) HGOOD.out HROOM.out (by rw [HNAT.out]; intro x hx; have := (HLE.out x hx).2.1; omega) (K.bitsOf s.data.toList) at_ (by rw [bitsOf_len]; omega)
    rw [bitsOf_len, HNAT.out, List.length_map, HL.out] at hD
    obtain ⟨x, tt, er, hRR⟩ : ∃ x tt er, K.decR (ls.map fun n : Nat => (n : Int)) (K.bitsOf s.data.toList) (at_ : Int) = (x, tt, er) := ⟨_, _, _, rfl⟩
    rw [hRR] at hD
    have hD2 : ((x, tt, er) = (0, 0, 10) ∧ 8 * s.size < at_ + 17) ∨ (er = 0 ∧ x < xs.length ∧ tt = at_ + ls.getD x 0) := hD
    have HD := Lib.hid hD2
    have HRR := Lib.hid hRR
    clear hD hD2 h1 h2 hRR
    go_enter Try.func9, Try.ntmps9
    go_wp2_with fail
    refine M.mono ?_
    rintro e w1 ⟨a1, c1, rfl, hrow1, hk1, -⟩
    have hl : ls.length = xs.length := HL.out
    simp only at hrow1
    have HR1 := Lib.hid hrow1.seeA
    have D := decode_any a1 c1 (ls.map fun n : Nat => (n : Int)) s (at_ : Int) w1 (by rw [List.length_map, ← natVals_int]; exact HR1.out) (by rw [List.length_map]; omega) hs
    rw [List.length_map, HRR.out] at D
    rw [hl] at D HR1 ⊢
    have HK1 := Lib.hid hk1
    clear M hrow1 hk1 hl
    go_wp2_with fail
    refine D.mono ?_
    rintro e w2 ⟨rfl, hk2⟩
    have HR2 := Lib.hid (HR1.out.kept0 hk2)
    have HK2 := Lib.hid (HK1.out.new hk2 (by simp [Fresh]))
    have hd := HD.out
    clear D hk2 HK1 HR1 HD
    rcases hd with ⟨hr, hshort⟩ | ⟨d1, d2, d3⟩
    · cases hr
      have g3 : decide (8 * (s.size : Int) - (at_ : Int) < 17) = true := by simp; omega
      go_wp2_with fail
      refine (awakeP _).mono ?_
      rintro e w3 ⟨rfl, hk3⟩
      go_wp2_with fail
      go_ret
      exact ⟨rfl, HK2.out.new hk3 (by simp [Fresh])⟩
    · subst d1
      obtain ⟨y, hy⟩ : ∃ y, ls[x]? = some y := ⟨_, List.getElem?_eq_getElem (by rw [HL.out]; exact d2)⟩
      rw [List.getD, hy, Option.getD_some] at d3
      obtain ⟨b, off, rfl, -⟩ := HR2.out.at (by rw [natVals_length, HL.out]; omega)
      have c0 := HR2.out.natD hy
      have hyb := (HLE.out y (List.mem_of_getElem? hy)).2.2
      have g3 : decide (0 ≤ (x : Int)) = true := by simp
      have g4 : decide ((x : Int) < (xs.length : Int)) = true := by simp; omega
      have hxi : (x : Int) < (xs.length : Int) := by omega
      have g5 : ((tt : Int) == (at_ : Int) + (y : Int)) = true := by simp; omega
      clear hy d3
      go_wp2_with fail
      refine (awakeP _).mono ?_
      rintro e w3 ⟨rfl, hk3⟩
      go_wp2_with fail
      go_ret
      exact ⟨rfl, HK2.out.new hk3 (by simp [Fresh])⟩
end Go.Proofs.Ytodjfgdolegfpaa
